-- Laid by hprint.py (this session's program, over the kit's print) for the seat YthnkkohhohkbkaaDoor. Lean checks it.
import Derived.Test.YthnkkohhohkbkaaDoorMPx0
import Derived.Test.YthnkkohhohkbkaaDoorMPx2
import Derived.Test.YthnkkohhohkbkaaDoorMPx4
import Derived.Test.YthnkkohhohkbkaaDoorMPx5
import Derived.Test.YthnkkohhohkbkaaDoorMPx6
import Derived.Test.YthnkkohhohkbkaaDoorMPx7
namespace Go.Proofs.YthnkkohhohkbkaaDoor.MP
open Go.RowKit Go.Proofs.YthnkkohhohkbkaaDoorW.PrintWords Go.Proofs.YthnkkohhohkbkaaDoorW.PrintLast Go.Proofs.YthnkkohhohkbkaaDoorW.PrintMore
attribute [local go_sem] max2_int min2_int max_two min_two max_three min_three max_four min_four   -- for this text's walks alone
set_option linter.unusedVariables false
set_option linter.unusedSimpArgs false

/-! ### prelude ccheck -/
def twiceL (l : List Int) : List Int → Nat → Bool
  | [], _ => false
  | y :: r, i => (decide (0 ≤ y) && decide (byteR l y < (i : Int))) || twiceL l r (i + 1)
theorem rscalar_f (x : Int) : unicodetextref01_Scalar.f x = some (scalarB x) := by
  unfold unicodetextref01_Scalar.f unicodetextref01_Valid.f unicodetextref01_Surrogate.f scalarB
  by_cases h1 : x ≥ 0 <;> by_cases h2 : x ≤ 1114111 <;> by_cases h3 : x ≥ 55296 <;> by_cases h4 : x ≤ 57343 <;> simp [h1, h2, h3, h4]
theorem scalar_bounds {x : Int} (h : scalarB x = true) : 0 ≤ x ∧ x ≤ 1114111 := by
  unfold scalarB at h
  simp only [Bool.and_eq_true, decide_eq_true_eq] at h
  exact h.1
theorem not_bad {x : Int} (h : badI x = false) : x = -1 ∨ scalarB x = true := by
  unfold badI at h
  by_cases e : x = -1
  · exact .inl e
  · right
    rw [decide_eq_false e, Bool.not_false, Bool.true_and] at h
    cases hs : scalarB x with
    | true => rfl
    | false => rw [hs] at h; cases h
theorem check_l1 (l : List Int) (hl : l.length = 256) : ∀ (n i : Nat), i ≤ 256 → 256 - i = n → ∀ k, n + 300 < k → unicodetextref06_Check.l1 k (i : Int) l = some (if twiceL l (l.drop i) i = true then 5 else 0) := by
  intro n
  induction n with
  | zero =>
    intro i h1 h2 k hk
    obtain ⟨k, rfl⟩ : ∃ m, k = m + 1 := ⟨k - 1, by omega⟩
    rw [unicodetextref06_Check.l1, if_neg (by omega), List.drop_of_length_le (by omega), twiceL, if_neg (by decide)]
  | succ n ih =>
    intro i h1 h2 k hk
    obtain ⟨k, rfl⟩ : ∃ m, k = m + 1 := ⟨k - 1, by omega⟩
    have hn := ih (i + 1) (by omega) (by omega) k (by omega)
    have hw : wrap64 ((i : Int) + 1) = ((i + 1 : Nat) : Int) := by unfold wrap64; omega
    rw [unicodetextref06_Check.l1, if_pos (by omega), if_pos (by omega), if_pos (by omega), drop_at l 0 i (by omega), twiceL, hw, hn, rd_nat]
    by_cases h0 : 0 ≤ l.getD i 0
    · rw [if_pos h0, byte_f l _ (by omega) k (by omega), Option.bind_some, decide_eq_true h0, Bool.true_and]
      by_cases h3 : byteR l (l.getD i 0) < (i : Int)
      · rw [if_pos h3, decide_eq_true h3, Bool.true_or, if_pos rfl]
      · rw [if_neg h3, decide_eq_false h3, Bool.false_or]
    · rw [if_neg h0, decide_eq_false h0, Bool.false_and, Bool.false_or]
theorem check_l0 (l : List Int) (hl : l.length = 256) : ∀ (n i : Nat), i ≤ 256 → 256 - i = n → ∀ k, n + 600 < k → unicodetextref06_Check.l0 k (i : Int) l = some (if (l.drop i).any badI = true then 1 else if twiceL l l 0 = true then 5 else 0) := by
  intro n
  induction n with
  | zero =>
    intro i h1 h2 k hk
    obtain ⟨k, rfl⟩ : ∃ m, k = m + 1 := ⟨k - 1, by omega⟩
    have := check_l1 l hl 256 0 (Nat.zero_le _) rfl k (by omega)
    rw [List.drop_zero] at this
    rw [unicodetextref06_Check.l0, if_neg (by omega), List.drop_of_length_le (by omega), List.any_nil, if_neg (by decide)]
    exact this
  | succ n ih =>
    intro i h1 h2 k hk
    obtain ⟨k, rfl⟩ : ∃ m, k = m + 1 := ⟨k - 1, by omega⟩
    have hn := ih (i + 1) (by omega) (by omega) k (by omega)
    have hw : wrap64 ((i : Int) + 1) = ((i + 1 : Nat) : Int) := by unfold wrap64; omega
    rw [unicodetextref06_Check.l0, if_pos (by omega), if_pos (by omega), if_pos (by omega), drop_at l 0 i (by omega), List.any_cons, hw, hn, rd_nat]
    by_cases h0 : l.getD i 0 = -1
    · rw [if_pos h0]
      have : badI (l.getD i 0) = false := by rw [h0]; rfl
      rw [this, Bool.false_or]
    · rw [if_neg h0, rscalar_f, Option.bind_some]
      cases hs : scalarB (l.getD i 0) with
      | true =>
        have : badI (l.getD i 0) = false := by unfold badI; rw [hs, decide_eq_false h0]; rfl
        rw [if_pos rfl, this, Bool.false_or]
      | false =>
        have : badI (l.getD i 0) = true := by unfold badI; rw [hs, decide_eq_false h0]; rfl
        rw [if_neg (by decide), this, Bool.true_or, if_pos rfl]
theorem twice_dup (l : List Int) : ∀ (suf pre : List Int), l = pre ++ suf → suf.any badI = false → twiceL l suf pre.length = dupI pre suf := by
  intro suf
  induction suf with
  | nil => intro pre _ _; rfl
  | cons y r ih =>
    intro pre hl hb
    rw [List.any_cons, Bool.or_eq_false_iff] at hb
    have h1 := ih (pre ++ [y]) (by rw [hl, List.append_assoc]; rfl) hb.2
    rw [List.length_append, List.length_singleton] at h1
    rw [twiceL, dupI, h1]
    congr 1
    by_cases e : y = -1
    · rw [decide_eq_true e, decide_eq_false (by omega : ¬ 0 ≤ y)]; rfl
    · have h0 : 0 ≤ y := by
        rcases not_bad hb.1 with h | h
        · exact absurd h e
        · exact (scalar_bounds h).1
      rw [decide_eq_false e, decide_eq_true h0, Bool.not_false, Bool.true_and, Bool.true_and]
      unfold byteR
      rw [hl, byteL_app pre (y :: r) 0 y h0]
      cases hp : pre.any fun z => decide (z = y) with
      | true => rw [if_pos rfl]; exact decide_eq_true (by have := byteL_in pre 0 y h0 hp; omega)
      | false => rw [if_neg (by decide), byteL, if_pos ⟨h0, rfl⟩]; exact decide_eq_false (by omega)
theorem rcheck_f (l : List Int) (k : Nat) (hk : 1000 < k) : unicodetextref06_Check.f k l = some (checkB l) := by
  unfold unicodetextref06_Check.f checkB
  by_cases hl : l.length = 256
  · have := check_l0 l hl 256 0 (Nat.zero_le _) rfl k (by omega)
    rw [List.drop_zero] at this
    rw [if_pos (by omega), if_pos hl]
    refine this.trans ?_
    by_cases hb : l.any badI = true
    · rw [if_pos hb, if_pos hb]
    · rw [if_neg hb, if_neg hb]
      have hd := twice_dup l l [] rfl (by cases h : l.any badI with | true => exact absurd h hb | false => rfl)
      rw [List.length_nil] at hd
      rw [hd]
  · rw [if_neg (by omega), if_neg hl]
theorem pcheck_f (l : List Int) (h : intsB l = true) : charset_Check.f l = some (checkB l) := if_pos h

/-! ### prelude cbof -/
theorem byteOf_eq {l : List Int} (h : checkB l = 0) (x : Int) : byteOf l x = if 0 ≤ byteR l x then some (byteR l x) else none := by
  obtain ⟨hl, hb, hd⟩ := check_ok h
  unfold byteOf byteR
  by_cases h0 : 0 ≤ x
  · cases ha : (l.any fun z => decide (z = x)) with
    | true =>
      have := byteL_in l 0 x h0 ha
      rw [byteG_in l [] 0 none x h0 hd ha, if_pos (by omega)]
    | false => rw [byteG_out l 0 none x ha, byteL_out l 0 x ha, if_neg (by decide)]
  · rw [byteL_neg l 0 x h0, if_neg (by decide)]
    by_cases e : x = -1
    · rw [e]; exact byteG_neg l 0 none
    · refine byteG_out l 0 none x ?_
      cases ha : (l.any fun z => decide (z = x)) with
      | false => rfl
      | true =>
        have hm := any_in ha
        have hbx : badI x = false := Bool.eq_false_iff.2 (List.any_eq_false.1 hb x hm)
        rcases not_bad hbx with q | q
        · exact absurd q e
        · exact absurd (scalar_bounds q).1 h0
theorem byteR_lt {l : List Int} (hl : l.length = 256) (x : Int) : byteR l x < 256 := by
  unfold byteR
  by_cases h0 : 0 ≤ x
  · cases ha : (l.any fun z => decide (z = x)) with
    | true => have := byteL_in l 0 x h0 ha; omega
    | false => rw [byteL_out l 0 x ha]; decide
  · rw [byteL_neg l 0 x h0]; decide
theorem one_eq {t : Int} (h0 : 0 ≤ t) (h1 : t < 256) : strOfNums ([t % 256] : List Int) = ⟨#[UInt8.ofNat t.toNat]⟩ := by
  have e : t % 256 = t := by omega
  rw [e]; rfl
theorem gB_in {l : List Int} (h : checkB l = 0) {x : Int} (h0 : 0 ≤ byteR l x) : gB (byteOf l) x = [UInt8.ofNat (byteR l x).toNat] := by
  unfold gB; rw [byteOf_eq h x, if_pos h0]
theorem gB_out {l : List Int} (h : checkB l = 0) {x : Int} (h0 : ¬ 0 ≤ byteR l x) : gB (byteOf l) x = [] := by
  unfold gB; rw [byteOf_eq h x, if_neg h0]
theorem some_in {l : List Int} (h : checkB l = 0) {x : Int} (h0 : 0 ≤ byteR l x) : (byteOf l x).isSome = true := by rw [byteOf_eq h x, if_pos h0]; rfl
theorem some_out {l : List Int} (h : checkB l = 0) {x : Int} (h0 : ¬ 0 ≤ byteR l x) : (byteOf l x).isSome = false := by rw [byteOf_eq h x, if_neg h0]; rfl

/-! ### unicodetextref06_Missing: function 8 -/
mutual
def unicodetextref06_Missing.l0 : Nat → List Int → List Int → Int → List Int → Option (List Int)
  | 0, _, _, _, _ => none
  | k + 1, x1, x5, x6, x265000 => if x6 < (x1.length : Int) then (if 0 ≤ x6 then ((unicodetextref06_Byte.f k x265000 (rd x1 x6)).bind fun t267 => (if t267 ≥ 0 then (unicodetextref06_Missing.l0 k x1 x5 (wrap64 (x6 + 1)) x265000) else (unicodetextref06_Missing.l1 k x1 x5 x6 (rd x1 x6) 0 x265000))) else (none)) else (some x5)
def unicodetextref06_Missing.l1 : Nat → List Int → List Int → Int → Int → Int → List Int → Option (List Int)
  | 0, _, _, _, _, _, _ => none
  | k + 1, x1, x5, x6, x7, x8, x265000 => if x8 < (x5.length : Int) then (if 0 ≤ x8 then (if (rd x5 x8) < x7 then (unicodetextref06_Missing.l1 k x1 x5 x6 x7 (wrap64 (x8 + 1)) x265000) else (if x8 = (x5.length : Int) then ((some (([] : List Int) : List Int)).bind fun y269 => (if x8 ≤ (x5.length : Int) then ((some (x5.take (x8 : Int).toNat : List Int)).bind fun y272 => (if y269.length + y272.length < 17592186044416 then ((some (y269 ++ y272 : List Int)).bind fun y276 => (if y276.length < 17592186044416 then ((some (y276 ++ [x7] : List Int)).bind fun y279 => ((some (x5.drop (x8 : Int).toNat : List Int)).bind fun y282 => (if y279.length + y282.length < 17592186044416 then (unicodetextref06_Missing.l0 k x1 (y279 ++ y282) (wrap64 (x6 + 1)) x265000) else (none)))) else (none))) else (none))) else (none))) else (if (rd x5 x8) = x7 then (unicodetextref06_Missing.l0 k x1 x5 (wrap64 (x6 + 1)) x265000) else ((some (([] : List Int) : List Int)).bind fun y290 => (if x8 ≤ (x5.length : Int) then ((some (x5.take (x8 : Int).toNat : List Int)).bind fun y293 => (if y290.length + y293.length < 17592186044416 then ((some (y290 ++ y293 : List Int)).bind fun y297 => (if y297.length < 17592186044416 then ((some (y297 ++ [x7] : List Int)).bind fun y300 => ((some (x5.drop (x8 : Int).toNat : List Int)).bind fun y303 => (if y300.length + y303.length < 17592186044416 then (unicodetextref06_Missing.l0 k x1 (y300 ++ y303) (wrap64 (x6 + 1)) x265000) else (none)))) else (none))) else (none))) else (none)))))) else (none)) else (if x8 = (x5.length : Int) then ((some (([] : List Int) : List Int)).bind fun y310 => (if 0 ≤ x8 then (if x8 ≤ (x5.length : Int) then ((some (x5.take (x8 : Int).toNat : List Int)).bind fun y313 => (if y310.length + y313.length < 17592186044416 then ((some (y310 ++ y313 : List Int)).bind fun y317 => (if y317.length < 17592186044416 then ((some (y317 ++ [x7] : List Int)).bind fun y320 => ((some (x5.drop (x8 : Int).toNat : List Int)).bind fun y323 => (if y320.length + y323.length < 17592186044416 then (unicodetextref06_Missing.l0 k x1 (y320 ++ y323) (wrap64 (x6 + 1)) x265000) else (none)))) else (none))) else (none))) else (none)) else (none))) else (if 0 ≤ x8 then (none) else (none)))
end
def unicodetextref06_Missing.f (k : Nat) (l0_0 : List Int) (l1 : List Int) : Option (List Int) := (unicodetextref06_Check.f k l0_0).bind fun t265 => (if t265 = 0 then (unicodetextref06_Missing.l0 k l1 ([] : List Int) 0 l0_0) else (some ([] : List Int)))
theorem unicodetextref06_Missing.mono_l : ∀ k, (∀ y0 y1 y2 y3, LeO (unicodetextref06_Missing.l0 k y0 y1 y2 y3) (unicodetextref06_Missing.l0 (k + 1) y0 y1 y2 y3)) ∧ (∀ y0 y1 y2 y3 y4 y5, LeO (unicodetextref06_Missing.l1 k y0 y1 y2 y3 y4 y5) (unicodetextref06_Missing.l1 (k + 1) y0 y1 y2 y3 y4 y5))
  | 0 => ⟨fun _ _ _ _ r h => by simp [unicodetextref06_Missing.l0] at h, fun _ _ _ _ _ _ r h => by simp [unicodetextref06_Missing.l1] at h⟩
  | k + 1 => by
    obtain ⟨ih0, ih1⟩ := unicodetextref06_Missing.mono_l k
    refine ⟨?_, ?_⟩
    · intro y0 y1 y2 y3
      unfold unicodetextref06_Missing.l0
      repeat' first
      | (with_reducible exact ih0 _ _ _ _)
      | (with_reducible exact ih1 _ _ _ _ _ _)
      | (with_reducible exact unicodetextref06_Byte.mono _ _ _)
      | (with_reducible exact unicodetextref06_Check.mono _ _)
      | (with_reducible exact LeO.refl _)
      | (with_reducible exact LeO.none _)
      | (with_reducible refine LeO.ite ?_ ?_)
      | (with_reducible refine LeO.bind ?_ (fun _ => ?_))
      | exact ih0 _ _ _ _
      | exact ih1 _ _ _ _ _ _
      | exact unicodetextref06_Byte.mono _ _ _
      | exact unicodetextref06_Check.mono _ _
      | exact LeO.none _
      | refine LeO.ite ?_ ?_
      | refine LeO.bind ?_ (fun _ => ?_)
    · intro y0 y1 y2 y3 y4 y5
      unfold unicodetextref06_Missing.l1
      repeat' first
      | (with_reducible exact ih0 _ _ _ _)
      | (with_reducible exact ih1 _ _ _ _ _ _)
      | (with_reducible exact unicodetextref06_Byte.mono _ _ _)
      | (with_reducible exact unicodetextref06_Check.mono _ _)
      | (with_reducible exact LeO.refl _)
      | (with_reducible exact LeO.none _)
      | (with_reducible refine LeO.ite ?_ ?_)
      | (with_reducible refine LeO.bind ?_ (fun _ => ?_))
      | exact ih0 _ _ _ _
      | exact ih1 _ _ _ _ _ _
      | exact unicodetextref06_Byte.mono _ _ _
      | exact unicodetextref06_Check.mono _ _
      | exact LeO.none _
      | refine LeO.ite ?_ ?_
      | refine LeO.bind ?_ (fun _ => ?_)
theorem unicodetextref06_Missing.mono : ∀ a0 a1 k, LeO (unicodetextref06_Missing.f k a0 a1) (unicodetextref06_Missing.f (k + 1) a0 a1) := by
  intro a0 a1 k
  obtain ⟨ih0, ih1⟩ := unicodetextref06_Missing.mono_l k
  unfold unicodetextref06_Missing.f
  repeat' first
      | (with_reducible exact ih0 _ _ _ _)
      | (with_reducible exact ih1 _ _ _ _ _ _)
      | (with_reducible exact unicodetextref06_Byte.mono _ _ _)
      | (with_reducible exact unicodetextref06_Check.mono _ _)
      | (with_reducible exact LeO.refl _)
      | (with_reducible exact LeO.none _)
      | (with_reducible refine LeO.ite ?_ ?_)
      | (with_reducible refine LeO.bind ?_ (fun _ => ?_))
      | exact ih0 _ _ _ _
      | exact ih1 _ _ _ _ _ _
      | exact unicodetextref06_Byte.mono _ _ _
      | exact unicodetextref06_Check.mono _ _
      | exact LeO.none _
      | refine LeO.ite ?_ ?_
      | refine LeO.bind ?_ (fun _ => ?_)
set_option maxHeartbeats 8000000 in
set_option maxRecDepth 100000 in
theorem unicodetextref06_Missing.calls (k : Nat) (A0_0 : Option Addr) (c0_0 : Nat) (l0_0 : List Int) (A1 : Option Addr) (c1 : Nat) (l1 : List Int) (r : List Int) (w : World) (hr0_0 : Kd.C (Kd.int .i64) w A0_0 l0_0.length l0_0) (hc0_0 : l0_0.length ≤ c0_0) (hr1 : Kd.C (Kd.int .i64) w A1 l1.length l1) (hc1 : l1.length ≤ c1) (h : unicodetextref06_Missing.f k l0_0 l1 = some r) :
    Calls Tryd.prog 8 #[.agg #[.slice A0_0 l0_0.length c0_0], .slice A1 l1.length c1] w fun e w' => ∃ v0_ : Value, e = .returned (v0_) ∧ Kd.R (Kd.int .i64) 3 w' w.heap.size (fun _ => True) v0_ r ∧ Below w.heap.size w w' := by
  have hu24 := Tryd.underlying24
  have HR0_0 := Aside0.mk hr0_0
  have HC0_0 := Aside0.mk hc0_0
  clear hr0_0 hc0_0
  have HR1 := Aside0.mk hr1
  have HC1 := Aside0.mk hc1
  clear hr1 hc1
  have HB := Aside0.mk (Below.refl w.heap.size w)
  have H : ((unicodetextref06_Check.f k l0_0).bind fun t265 => (if t265 = 0 then (unicodetextref06_Missing.l0 k l1 ([] : List Int) 0 l0_0) else (some ([] : List Int)))) = some r := h
  clear h
  replace H := Option.bind_eq_some_iff.mp H
  obtain ⟨t265, A30, H⟩ := H
  replace H : (if t265 = 0 then (unicodetextref06_Missing.l0 k l1 ([] : List Int) 0 l0_0) else (some ([] : List Int))) = some r := H
  have A3 := Aside0.mk A30
  clear A30
  by_cases c4 : t265 = 0
  · rw [if_pos c4] at H
    have c4b0 : (t265 == 0) = true := beq_iff_eq.mpr c4
    have c4b1 : (t265 != 0) = false := bne_eq_false_iff_eq.mpr c4
    clear c4
    have H' := Aside0.mk H
    clear H
    go_enter Tryd.func8, Tryd.ntmps8
    go_wp2_with (first | ((with_reducible refine gate_dst (N := 2) rfl ?_); refine box_event ?hg (N := 2) ?hd (cs := #[.slice A0_0 l0_0.length c0_0]) (t := 24) ?hr ?_; (case hd => rfl); (case hg => rfl); (case hr => first | (go_simp; done) | (go_simp; rfl)); intro gb264 hg w5 hbox hb; have n0_ := Aside0.mk (below_step (by repeat (first | (with_reducible first | exact HB.out | apply below_alloc | apply pw_below_drewN | apply below_drew1) | exact HB.out)) hb); have n1_ := Aside0.mk (hbox); have n2_ := Aside0.mk ((by rw [hg]; exact (below_size (by repeat (first | (with_reducible first | exact HB.out | apply below_alloc | apply pw_below_drewN | apply below_drew1) | exact HB.out))) : w.heap.size ≤ gb264)); have n3_ := Aside0.mk ((by rw [hg]; exact (below_size (by repeat (first | (with_reducible first | exact HB.out | apply below_alloc | apply pw_below_drewN | apply below_drew1) | exact HB.out))) : w.heap.size ≤ gb264)); clear HB; have HB := n0_; have BK264 := n1_; have GW264 := n2_; have GE264 := n3_; clear n0_ n1_ n2_ n3_; clear hb hbox hg; have hcz6_0 : w5.cell? ⟨gb264, 0, none⟩ = some (.slice A0_0 l0_0.length c0_0) := (blk_cell BK264.out 0).trans rfl; have hfz6_0 := blk_frozen BK264.out 0) | ((with_reducible refine gate_callee (f := 10) rfl ?_); refine goesL_ (some 11) rfl rfl Tryd.func10 (by kernel_rfl) rfl #[.agg #[.slice A0_0 l0_0.length c0_0]] rfl (by (try simp only [List.map_toArray, List.map_cons, List.map_nil]); first | done | rfl | (simp only [List.length_drop, List.length_take]; rfl)) ?_; (with_reducible refine (unicodetextref06_Check.calls k _ _ l0_0 t265 _ ?side1 ?side2 A3.out).mono ?_); (case side1 => repeat (first | exact (Kd.C_below HR0_0.out HB.out) | (with_reducible refine Kd.C_alloc ?_ _) | (with_reducible refine Kd.C_drewN ?_ _) | (with_reducible refine Kd.C_drew ?_))); (case side2 => exact HC0_0.out); rintro e w7 ⟨rfl, hb⟩; refine ⟨_, rfl, ?_⟩; have n0_ := Aside0.mk (blk_below (g := gb264) (o := .cells #[.slice A0_0 l0_0.length c0_0] 24 (0, 0)) (by (with_reducible repeat (first | refine blk_drewN ?_ _ | refine blk_drew ?_ | refine blk_alloc ?_ _)); exact BK264.out) hb); have n1_ := Aside0.mk (below_step (by repeat (first | (with_reducible first | exact HB.out | apply below_alloc | apply pw_below_drewN | apply below_drew1 | refine below_set ?_ GE264.out) | exact HB.out)) hb); clear BK264; clear HB; have BK264 := n0_; have HB := n1_; clear n0_ n1_; (try clear hb); (try clear hb2); (try clear hk); (try clear hi)))
    go_loopg [5, 6] k (fun kq v5 v6 w' => ∃ (x5_1 : List Int) (x6_1 : Int), v6 = .int .i64 x6_1 ∧ Aside0 (unicodetextref06_Missing.l0 kq l1 x5_1 x6_1 l0_0 = some r) ∧ Aside0 (kq ≤ k) ∧ Aside0 (Kd.R (Kd.int .i64) 3 w' w.heap.size (fun _ => True) v5 x5_1) ∧ Aside0 (w'.heap[gb264]? = some (.cells #[(.slice A0_0 l0_0.length c0_0)] 24 (0, 0))) ∧ Aside0 (Below w.heap.size w w'))
    case atStart => exact ⟨(([] : List Int)), (0), (by first | rfl | (simp; done) | (simp [*]; done)), H', ⟨Nat.le_refl _⟩, ⟨by first | exact Kd.R_nil _ _ _ _ _ | exact Kd.N_nil _ _ _ _ _ | exact Kd.V_nil _ _ _ _ _ | exact Kd.Q_nil _ _ _ _ _ | exact Kd.S_nil _ _ _ _ _⟩, ⟨by (with_reducible repeat (first | refine blk_drewN ?_ _ | refine blk_drew ?_ | refine blk_alloc ?_ _)); exact BK264.out⟩, ⟨by repeat (first | (with_reducible first | exact HB.out | apply below_alloc | apply pw_below_drewN | apply below_drew1 | refine below_set ?_ GE264.out) | exact HB.out)⟩⟩
    case round =>
      clear H'
      try clear c1
      try clear p2
      try clear c4
      try clear c4b0
      try clear c4b1
      try clear hcz6_0
      try clear hfz6_0
      obtain ⟨x5_1, x6_1, rfl, HA, HK1, HO_5, BK264, HB⟩ := hrel
      cases gk with
      | zero => exact absurd HA.out (by simp [unicodetextref06_Missing.l0])
      | succ k1 =>
        have H := HA.out
        clear HA
        simp only [unicodetextref06_Missing.l0] at H
        by_cases c8 : x6_1 < (l1.length : Int)
        · rw [if_pos c8] at H
          have c8b0 : decide (x6_1 < (l1.length : Int)) = true := decide_eq_true c8
          clear c8
          by_cases c9 : 0 ≤ x6_1
          · rw [if_pos c9] at H
            have c9b0 : decide (0 ≤ x6_1) = true := decide_eq_true c9
            clear c9
            replace H := Option.bind_eq_some_iff.mp H
            obtain ⟨t267, A100, H⟩ := H
            replace H : (if t267 ≥ 0 then (unicodetextref06_Missing.l0 k1 l1 x5_1 (wrap64 (x6_1 + 1)) l0_0) else (unicodetextref06_Missing.l1 k1 l1 x5_1 x6_1 (rd l1 x6_1) 0 l0_0)) = some r := H
            have A10 := Aside0.mk A100
            clear A100
            by_cases c11 : t267 ≥ 0
            · rw [if_pos c11] at H
              have c11b0 : decide (0 ≤ t267) = true := decide_eq_true c11
              clear c11
              have H' := Aside0.mk H
              clear H
              have p266 : 0 ≤ (x6_1 : Int) := of_decide_eq_true (by first | (with_reducible assumption) | assumption)
              have q266 : x6_1 < (l1.length : Int) := of_decide_eq_true (by first | (with_reducible assumption) | assumption)
              obtain ⟨ad266, e266, hx266_0⟩ := Kd.at_int HR1.out x6_1 p266 q266
              cases e266
              replace hx266_0 := (HB.out.cell (World.block_lt_of_cell? w _ hx266_0)).trans hx266_0
              replace p266 := eq_true p266
              replace q266 := eq_true q266
              have hcz12_0 : wr.cell? ⟨gb264, 0, none⟩ = some (.slice A0_0 l0_0.length c0_0) := (blk_cell BK264.out 0).trans rfl
              have hfz12_0 := blk_frozen BK264.out 0
              go_wp2_with (first | ((with_reducible refine gate_callee (f := 17) rfl ?_); refine goesL_ (some 25) rfl rfl Tryd.func17 (by kernel_rfl) rfl #[.agg #[.slice A0_0 l0_0.length c0_0], .int .i64 (rd l1 x6_1)] rfl (by (try simp only [List.map_toArray, List.map_cons, List.map_nil]); first | done | rfl | (simp only [List.length_drop, List.length_take]; rfl)) ?_; (with_reducible refine (unicodetextref06_Byte.calls k1 _ _ l0_0 (rd l1 x6_1) t267 _ ?side1 ?side2 A10.out).mono ?_); (case side1 => repeat (first | exact (Kd.C_below HR0_0.out HB.out) | (with_reducible refine Kd.C_alloc ?_ _) | (with_reducible refine Kd.C_drewN ?_ _) | (with_reducible refine Kd.C_drew ?_))); (case side2 => exact HC0_0.out); rintro e w13 ⟨rfl, hb⟩; refine ⟨_, rfl, ?_⟩; have n0_ := Aside0.mk (Kd.R_below (by (with_reducible repeat (first | apply Kd.R_alloc | apply Kd.R_drewN | apply Kd.R_drew)); exact HO_5.out) hb); have n1_ := Aside0.mk (blk_below (g := gb264) (o := .cells #[.slice A0_0 l0_0.length c0_0] 24 (0, 0)) (by (with_reducible repeat (first | refine blk_drewN ?_ _ | refine blk_drew ?_ | refine blk_alloc ?_ _)); exact BK264.out) hb); have n2_ := Aside0.mk (below_step (by repeat (first | (with_reducible first | exact HB.out | apply below_alloc | apply pw_below_drewN | apply below_drew1 | refine below_set ?_ GE264.out) | exact HB.out)) hb); clear HO_5; clear BK264; clear HB; have HO_5 := n0_; have BK264 := n1_; have HB := n2_; clear n0_ n1_ n2_; (try clear hb); (try clear hb2); (try clear hk); (try clear hi)))
              go_roundg k1
              case measure => have := HK1.out; omega
              case rel => exact ⟨(x5_1), (wrap64 (x6_1 + 1)), (by first | rfl | (simp; done) | (simp [*]; done)), H', ⟨by have := HK1.out; omega⟩, ⟨by (with_reducible repeat (first | apply Kd.R_alloc | apply Kd.R_drewN | apply Kd.R_drew)); exact HO_5.out⟩, ⟨by (with_reducible repeat (first | refine blk_drewN ?_ _ | refine blk_drew ?_ | refine blk_alloc ?_ _)); exact BK264.out⟩, ⟨by repeat (first | (with_reducible first | exact HB.out | apply below_alloc | apply pw_below_drewN | apply below_drew1 | refine below_set ?_ GE264.out) | exact HB.out)⟩⟩
            · rw [if_neg c11] at H
              have c11b0 : decide (0 ≤ t267) = false := decide_eq_false c11
              clear c11
              have H' := Aside0.mk H
              clear H
              have p266 : 0 ≤ (x6_1 : Int) := of_decide_eq_true (by first | (with_reducible assumption) | assumption)
              have q266 : x6_1 < (l1.length : Int) := of_decide_eq_true (by first | (with_reducible assumption) | assumption)
              obtain ⟨ad266, e266, hx266_0⟩ := Kd.at_int HR1.out x6_1 p266 q266
              cases e266
              replace hx266_0 := (HB.out.cell (World.block_lt_of_cell? w _ hx266_0)).trans hx266_0
              replace p266 := eq_true p266
              replace q266 := eq_true q266
              have hcz14_0 : wr.cell? ⟨gb264, 0, none⟩ = some (.slice A0_0 l0_0.length c0_0) := (blk_cell BK264.out 0).trans rfl
              have hfz14_0 := blk_frozen BK264.out 0
              go_wp2_with (first | ((with_reducible refine gate_callee (f := 17) rfl ?_); refine goesL_ (some 25) rfl rfl Tryd.func17 (by kernel_rfl) rfl #[.agg #[.slice A0_0 l0_0.length c0_0], .int .i64 (rd l1 x6_1)] rfl (by (try simp only [List.map_toArray, List.map_cons, List.map_nil]); first | done | rfl | (simp only [List.length_drop, List.length_take]; rfl)) ?_; (with_reducible refine (unicodetextref06_Byte.calls k1 _ _ l0_0 (rd l1 x6_1) t267 _ ?side1 ?side2 A10.out).mono ?_); (case side1 => repeat (first | exact (Kd.C_below HR0_0.out HB.out) | (with_reducible refine Kd.C_alloc ?_ _) | (with_reducible refine Kd.C_drewN ?_ _) | (with_reducible refine Kd.C_drew ?_))); (case side2 => exact HC0_0.out); rintro e w15 ⟨rfl, hb⟩; refine ⟨_, rfl, ?_⟩; have n0_ := Aside0.mk (Kd.R_below (by (with_reducible repeat (first | apply Kd.R_alloc | apply Kd.R_drewN | apply Kd.R_drew)); exact HO_5.out) hb); have n1_ := Aside0.mk (blk_below (g := gb264) (o := .cells #[.slice A0_0 l0_0.length c0_0] 24 (0, 0)) (by (with_reducible repeat (first | refine blk_drewN ?_ _ | refine blk_drew ?_ | refine blk_alloc ?_ _)); exact BK264.out) hb); have n2_ := Aside0.mk (below_step (by repeat (first | (with_reducible first | exact HB.out | apply below_alloc | apply pw_below_drewN | apply below_drew1 | refine below_set ?_ GE264.out) | exact HB.out)) hb); clear HO_5; clear BK264; clear HB; have HO_5 := n0_; have BK264 := n1_; have HB := n2_; clear n0_ n1_ n2_; (try clear hb); (try clear hb2); (try clear hk); (try clear hi)))
              go_loopg [8] k1 (fun kq v8 w' => ∃ (x8_2 : Int), v8 = .int .i64 x8_2 ∧ Aside0 (unicodetextref06_Missing.l1 kq l1 x5_1 x6_1 (rd l1 x6_1) x8_2 l0_0 = some r) ∧ Aside0 (kq ≤ k1) ∧ Aside0 (Kd.R (Kd.int .i64) 3 w' w.heap.size (fun _ => True) u5 x5_1) ∧ Aside0 (w'.heap[gb264]? = some (.cells #[(.slice A0_0 l0_0.length c0_0)] 24 (0, 0))) ∧ Aside0 (Below w.heap.size w w'))
              case atStart => exact ⟨(0), (by first | rfl | (simp; done) | (simp [*]; done)), H', ⟨Nat.le_refl _⟩, ⟨by (with_reducible repeat (first | apply Kd.R_alloc | apply Kd.R_drewN | apply Kd.R_drew)); exact HO_5.out⟩, ⟨by (with_reducible repeat (first | refine blk_drewN ?_ _ | refine blk_drew ?_ | refine blk_alloc ?_ _)); exact BK264.out⟩, ⟨by repeat (first | (with_reducible first | exact HB.out | apply below_alloc | apply pw_below_drewN | apply below_drew1 | refine below_set ?_ GE264.out) | exact HB.out)⟩⟩
              case round =>
                clear H'
                try clear c1
                try clear p2
                try clear q2
                try clear hx2
                try clear c4
                try clear c4b0
                try clear c4b1
                try clear p6
                try clear c8
                try clear c8b0
                try clear c9
                try clear c9b0
                try clear c10
                try clear c11
                try clear c11b0
                try clear hcz12_0
                try clear hcz14_0
                try clear hcz6_0
                try clear hfz12_0
                try clear hfz14_0
                try clear hfz6_0
                try clear hx266_0
                try clear p2
                try clear p266
                try clear q266
                obtain ⟨x8_2, rfl, HA, HK2, HO_5, BK264, HB⟩ := hrel
                cases gk with
                | zero => exact absurd HA.out (by simp [unicodetextref06_Missing.l1])
                | succ k2 =>
                  have H := HA.out
                  clear HA
                  simp only [unicodetextref06_Missing.l1] at H
                  by_cases c16 : x8_2 < (x5_1.length : Int)
                  · rw [if_pos c16] at H
                    have c16b0 : decide (x8_2 < (x5_1.length : Int)) = true := decide_eq_true c16
                    clear c16
                    by_cases c17 : 0 ≤ x8_2
                    · rw [if_pos c17] at H
                      have c17b0 : decide (0 ≤ x8_2) = true := decide_eq_true c17
                      clear c17
                      by_cases c18 : (rd x5_1 x8_2) < (rd l1 x6_1)
                      · rw [if_pos c18] at H
                        have c18b0 : decide ((rd x5_1 x8_2) < (rd l1 x6_1)) = true := decide_eq_true c18
                        clear c18
                        have H' := Aside0.mk H
                        clear H
                        obtain ⟨Ao19, co19, eo19⟩ := Kd.R_slice HO_5.out
                        subst eo19
                        have p268 : 0 ≤ (x8_2 : Int) := of_decide_eq_true (by first | (with_reducible assumption) | assumption)
                        have q268 : x8_2 < (x5_1.length : Int) := of_decide_eq_true (by first | (with_reducible assumption) | assumption)
                        obtain ⟨ad268, e268, hx268_0⟩ := Kd.at_int (Kd.R_reads' HO_5.out).2.2 x8_2 p268 q268
                        cases e268
                        replace p268 := eq_true p268
                        replace q268 := eq_true q268
                        go_wp2
                        go_roundg k2
                        case measure => have := HK1.out; have := HK2.out; omega
                        case rel => exact ⟨(wrap64 (x8_2 + 1)), (by first | rfl | (simp; done) | (simp [*]; done)), H', ⟨by have := HK1.out; have := HK2.out; omega⟩, ⟨by (with_reducible repeat (first | apply Kd.R_alloc | apply Kd.R_drewN | apply Kd.R_drew)); exact HO_5.out⟩, ⟨by (with_reducible repeat (first | refine blk_drewN ?_ _ | refine blk_drew ?_ | refine blk_alloc ?_ _)); exact BK264.out⟩, ⟨by repeat (first | (with_reducible first | exact HB.out | apply below_alloc | apply pw_below_drewN | apply below_drew1 | refine below_set ?_ GE264.out) | exact HB.out)⟩⟩
                      · rw [if_neg c18] at H
                        have c18b0 : decide ((rd x5_1 x8_2) < (rd l1 x6_1)) = false := decide_eq_false c18
                        clear c18
                        by_cases c20 : x8_2 = (x5_1.length : Int)
                        · rw [if_pos c20] at H
                          have c20b0 : (x8_2 == (x5_1.length : Int)) = true := beq_iff_eq.mpr c20
                          have c20b1 : (x8_2 != (x5_1.length : Int)) = false := bne_eq_false_iff_eq.mpr c20
                          clear c20
                          obtain ⟨y269, hy269⟩ : ∃ y_ : List Int, y_ = (([] : List Int)) := ⟨_, rfl⟩
                          replace H : (if x8_2 ≤ (x5_1.length : Int) then ((some (x5_1.take (x8_2 : Int).toNat : List Int)).bind fun y272 => (if y269.length + y272.length < 17592186044416 then ((some (y269 ++ y272 : List Int)).bind fun y276 => (if y276.length < 17592186044416 then ((some (y276 ++ [(rd l1 x6_1)] : List Int)).bind fun y279 => ((some (x5_1.drop (x8_2 : Int).toNat : List Int)).bind fun y282 => (if y279.length + y282.length < 17592186044416 then (unicodetextref06_Missing.l0 k2 l1 (y279 ++ y282) (wrap64 (x6_1 + 1)) l0_0) else (none)))) else (none))) else (none))) else (none)) = some r := by first | (rw [hy269]; with_reducible exact H) | (have H2_ := (Option.bind_some _ _).symm.trans H; rw [hy269]; with_reducible exact H2_) | (have H2_ := (Option.bind_some _ _).symm.trans H; with_reducible exact H2_) | with_reducible exact H | (rw [hy269]; exact H) | exact H
                          have Ny269 := Aside0.mk hy269
                          clear hy269
                          have c21b0 := eq_true (of_decide_eq_true (by first | (with_reducible assumption) | assumption) : 0 ≤ x8_2)
                          by_cases c22 : x8_2 ≤ (x5_1.length : Int)
                          · rw [if_pos c22] at H
                            have c22b0 := eq_true c22
                            have c22b1 : decide (x8_2 ≤ (x5_1.length : Int)) = true := decide_eq_true c22
                            clear c22
                            obtain ⟨y272, hy272⟩ : ∃ y_ : List Int, y_ = (x5_1.take (x8_2 : Int).toNat) := ⟨_, rfl⟩
                            replace H : (if y269.length + y272.length < 17592186044416 then ((some (y269 ++ y272 : List Int)).bind fun y276 => (if y276.length < 17592186044416 then ((some (y276 ++ [(rd l1 x6_1)] : List Int)).bind fun y279 => ((some (x5_1.drop (x8_2 : Int).toNat : List Int)).bind fun y282 => (if y279.length + y282.length < 17592186044416 then (unicodetextref06_Missing.l0 k2 l1 (y279 ++ y282) (wrap64 (x6_1 + 1)) l0_0) else (none)))) else (none))) else (none)) = some r := by first | (rw [hy272]; with_reducible exact H) | (have H2_ := (Option.bind_some _ _).symm.trans H; rw [hy272]; with_reducible exact H2_) | (have H2_ := (Option.bind_some _ _).symm.trans H; with_reducible exact H2_) | with_reducible exact H | (rw [hy272]; exact H) | exact H
                            have Ny272 := Aside0.mk hy272
                            clear hy272
                            by_cases c23 : y269.length + y272.length < 17592186044416
                            · rw [if_pos c23] at H
                              have LMc23 := Aside0.mk c23
                              clear c23
                              obtain ⟨y276, hy276⟩ : ∃ y_ : List Int, y_ = (y269 ++ y272) := ⟨_, rfl⟩
                              replace H : (if y276.length < 17592186044416 then ((some (y276 ++ [(rd l1 x6_1)] : List Int)).bind fun y279 => ((some (x5_1.drop (x8_2 : Int).toNat : List Int)).bind fun y282 => (if y279.length + y282.length < 17592186044416 then (unicodetextref06_Missing.l0 k2 l1 (y279 ++ y282) (wrap64 (x6_1 + 1)) l0_0) else (none)))) else (none)) = some r := by first | (rw [hy276]; with_reducible exact H) | (have H2_ := (Option.bind_some _ _).symm.trans H; rw [hy276]; with_reducible exact H2_) | (have H2_ := (Option.bind_some _ _).symm.trans H; with_reducible exact H2_) | with_reducible exact H | (rw [hy276]; exact H) | exact H
                              have Ny276 := Aside0.mk hy276
                              clear hy276
                              by_cases c24 : y276.length < 17592186044416
                              · rw [if_pos c24] at H
                                have LMc24 := Aside0.mk c24
                                clear c24
                                obtain ⟨y279, hy279⟩ : ∃ y_ : List Int, y_ = (y276 ++ [(rd l1 x6_1)]) := ⟨_, rfl⟩
                                replace H : ((some (x5_1.drop (x8_2 : Int).toNat : List Int)).bind fun y282 => (if y279.length + y282.length < 17592186044416 then (unicodetextref06_Missing.l0 k2 l1 (y279 ++ y282) (wrap64 (x6_1 + 1)) l0_0) else (none))) = some r := by first | (rw [hy279]; with_reducible exact H) | (have H2_ := (Option.bind_some _ _).symm.trans H; rw [hy279]; with_reducible exact H2_) | (have H2_ := (Option.bind_some _ _).symm.trans H; with_reducible exact H2_) | with_reducible exact H | (rw [hy279]; exact H) | exact H
                                have Ny279 := Aside0.mk hy279
                                clear hy279
                                have c25b0 := eq_true (of_decide_eq_true (by first | (with_reducible assumption) | assumption) : 0 ≤ x8_2)
                                have c26b0 := eq_true (of_decide_eq_true (by first | (with_reducible assumption) | assumption) : x8_2 ≤ (x5_1.length : Int))
                                obtain ⟨y282, hy282⟩ : ∃ y_ : List Int, y_ = (x5_1.drop (x8_2 : Int).toNat) := ⟨_, rfl⟩
                                replace H : (if y279.length + y282.length < 17592186044416 then (unicodetextref06_Missing.l0 k2 l1 (y279 ++ y282) (wrap64 (x6_1 + 1)) l0_0) else (none)) = some r := by first | (rw [hy282]; with_reducible exact H) | (have H2_ := (Option.bind_some _ _).symm.trans H; rw [hy282]; with_reducible exact H2_) | (have H2_ := (Option.bind_some _ _).symm.trans H; with_reducible exact H2_) | with_reducible exact H | (rw [hy282]; exact H) | exact H
                                have Ny282 := Aside0.mk hy282
                                clear hy282
                                by_cases c27 : y279.length + y282.length < 17592186044416
                                · rw [if_pos c27] at H
                                  have LMc27 := Aside0.mk c27
                                  clear c27
                                  obtain ⟨y286, hy286⟩ : ∃ y_ : List Int, y_ = (y279 ++ y282) := ⟨_, rfl⟩
                                  replace H : (unicodetextref06_Missing.l0 k2 l1 y286 (wrap64 (x6_1 + 1)) l0_0) = some r := by first | (rw [hy286]; with_reducible exact H) | (have H2_ := (Option.bind_some _ _).symm.trans H; rw [hy286]; with_reducible exact H2_) | (have H2_ := (Option.bind_some _ _).symm.trans H; with_reducible exact H2_) | with_reducible exact H | (rw [hy286]; exact H) | exact H
                                  have Ny286 := Aside0.mk hy286
                                  clear hy286
                                  have H' := Aside0.mk H
                                  clear H
                                  obtain ⟨Ao28, co28, eo28⟩ := Kd.R_slice HO_5.out
                                  subst eo28
                                  have p268 : 0 ≤ (x8_2 : Int) := of_decide_eq_true (by first | (with_reducible assumption) | assumption)
                                  have q268 : x8_2 < (x5_1.length : Int) := of_decide_eq_true (by first | (with_reducible assumption) | assumption)
                                  obtain ⟨ad268, e268, hx268_0⟩ := Kd.at_int (Kd.R_reads' HO_5.out).2.2 x8_2 p268 q268
                                  cases e268
                                  replace p268 := eq_true p268
                                  replace q268 := eq_true q268
                                  go_wp2_with (first | ((with_reducible refine gate_dst (N := 53) rfl ?_); refine Kd.R_lit (Kd.int .i64) _ 3 ?hg (N := 53) ?hd (xs := ([] : List Int)) (inner := []) (ok := fun _ => True) (okp := fun _ => True) ?hr ?hp (fun _ hk => hk) trivial (Below.refl _ _) (Nat.le_refl _) (by simp) ?_; (case hd => rfl); (case hg => rfl); (case hr => first | (go_simp; done) | (go_simp; rfl)); (case hp => exact (Reps.none _ _)); intro v270 w29 ho30 hb hg_ hnew_; clear hg_ hnew_; (first | rw [← Ny269.out] at ho30 | (simp only [Int.reduceToNat] at ho30; rw [← Ny269.out] at ho30)); have n0_ := Aside0.mk (Kd.R_elder' (by (with_reducible repeat (first | apply Kd.R_alloc | apply Kd.R_drewN | apply Kd.R_drew)); exact HO_5.out) (Kd.R_base ho30) hb); have n1_ := Aside0.mk (Kd.R_lower (Kd.R_new' ho30 (Kd.R_lt (by (with_reducible repeat (first | apply Kd.R_alloc | apply Kd.R_drewN | apply Kd.R_drew)); exact HO_5.out))) (below_size (by repeat (first | (with_reducible first | exact HB.out | apply below_alloc | apply pw_below_drewN | apply below_drew1 | refine below_set ?_ GE264.out) | exact HB.out)))); have n2_ := Aside0.mk (blk_below (g := gb264) (o := .cells #[.slice A0_0 l0_0.length c0_0] 24 (0, 0)) (by (with_reducible repeat (first | refine blk_drewN ?_ _ | refine blk_drew ?_ | refine blk_alloc ?_ _)); exact BK264.out) hb); have n3_ := Aside0.mk (below_step (by repeat (first | (with_reducible first | exact HB.out | apply below_alloc | apply pw_below_drewN | apply below_drew1 | refine below_set ?_ GE264.out) | exact HB.out)) hb); clear HO_5; clear BK264; clear HB; have HO_5 := n0_; have HO271 := n1_; have BK264 := n2_; have HB := n3_; clear n0_ n1_ n2_ n3_; clear hb ho30; have q31 : (x8_2 : Int) ≤ ((x5_1.length : Int) : Int) := of_decide_eq_true (by first | (with_reducible assumption) | assumption); obtain ⟨i031, hi031, _, hsz31, _⟩ := info_parts info3; have hroom31 : x5_1.length ≤ co28 := (Kd.R_reads' HO_5.out).2.1; have hC31 : Kd.C (Kd.int .i64) _ (some ad268) x5_1.length x5_1 := (Kd.R_reads' HO_5.out).2.2; have hcut31 := cut_to (P := Tryd.prog) 22 3 .i64 Tryd.underlying22 hi031 (some ad268) x5_1.length co28 x8_2 (of_decide_eq_true (by first | (with_reducible assumption) | assumption)) q31 hroom31; have hr31 := Kd.C_take (m := (x8_2 : Int).toNat) hC31 (by omega); have hy31 : y272.length = (x8_2 : Int).toNat := (by rw [Ny272.out, List.length_take]; omega); rw [← Ny272.out] at hr31; rw [← hy31] at hcut31; have HR275 := Aside0.mk hr31; have HC275 := Aside0.mk (show y272.length ≤ co28 from by omega); clear hr31 hC31 hroom31 hi031 hsz31; have KY31 := Aside0.mk hy31; clear hy31; have KL31 := Aside0.mk (show (x8_2 : Int).toNat ≤ x5_1.length from by omega); replace q31 := eq_true q31) | ((with_reducible refine gate_builtin (b := .append) (xs := #[.tmp 53, .tmp 56]) rfl ?_); at_builtin; refine Kd.R_append_rows (Kd.int .i64) (w0 := w) w.heap.size rfl (.tmp 53) (.tmp 56) 22 3 (.int .i64 0) 8 rfl Tryd.underlying22 info3 rfl (by decide) (by omega) v270 y269 y272 _ _ _ (fun k_ => some k_ ≠ (.slice (some ad268) x5_1.length co28 : Value).ownBlock) (fun _ => False) rfl rfl ?aO ?aR (fun _ _ h => h) (fun _ h => h.elim) ?aF ?aB ?aS ?aL ?_; (case aR => repeat (first | exact (by repeat (first | (with_reducible exact HR275.out) | (with_reducible refine Kd.C_alloc ?_ _) | (with_reducible refine Kd.C_drewN ?_ _) | (with_reducible refine Kd.C_drew ?_) | exact HR275.out)) | (with_reducible refine Kd.C_alloc ?_ _) | (with_reducible refine Kd.C_drewN ?_ _) | (with_reducible refine Kd.C_drew ?_))); (case aB => exact (by repeat (first | (with_reducible first | exact HB.out | apply below_alloc | apply pw_below_drewN | apply below_drew1 | refine below_set ?_ GE264.out) | exact HB.out))); (case aF => exact (fun k_ hk => Kd.fresh' (Kd.R_lt (by (with_reducible repeat (first | apply Kd.R_alloc | apply Kd.R_drewN | apply Kd.R_drew)); exact HO_5.out)) k_ hk)); (case aO => exact (by (with_reducible repeat (first | apply Kd.R_alloc | apply Kd.R_drewN | apply Kd.R_drew)); exact Kd.R_mono HO271.out (fun _ hk => hk.2))); (case aS => exact (below_size (by repeat (first | (with_reducible first | exact HB.out | apply below_alloc | apply pw_below_drewN | apply below_drew1 | refine below_set ?_ GE264.out) | exact HB.out)))); (case aL => have := LMc23.out; omega); intro v277 w32 ho hb hg hat; rw [← Ny276.out] at ho; have n0_ := Aside0.mk (Kd.R_after (ok := (fun _ => True)) (by (with_reducible repeat (first | apply Kd.R_alloc | apply Kd.R_drewN | apply Kd.R_drew)); exact HO_5.out) hg hat); have n1_ := Aside0.mk (blk_grown (g := gb264) (o := .cells #[.slice A0_0 l0_0.length c0_0] 24 (0, 0)) (by (with_reducible repeat (first | refine blk_drewN ?_ _ | refine blk_drew ?_ | refine blk_alloc ?_ _)); exact BK264.out) hg (Kd.R_ne HO271.out BK264.out (by decide))); have n2_ := Aside0.mk (hb); have n3_ := Aside0.mk ((show Kd.C (Kd.int .i64) w32 (some ad268) y272.length y272 from by rw [Ny272.out]; exact Kd.C_take (m := (x8_2 : Int).toNat) ((Kd.R_reads' (Kd.R_after (ok := (fun _ => True)) (by (with_reducible repeat (first | apply Kd.R_alloc | apply Kd.R_drewN | apply Kd.R_drew)); exact HO_5.out) hg hat)).2.2) KL31.out)); have n4_ := Aside0.mk (ho); clear HO_5; clear BK264; clear HB; clear HR275; clear HO271; have HO_5 := n0_; have BK264 := n1_; have HB := n2_; have HR275 := n3_; have HO278 := n4_; clear n0_ n1_ n2_ n3_ n4_; clear ho hb hg hat) | ((with_reducible refine gate_builtin (b := .append) (xs := #[.tmp 58, .tmp 60]) rfl ?_); at_builtin; refine Kd.R_append (Kd.int .i64) (w0 := w) w.heap.size rfl (.tmp 58) (.tmp 60) 22 3 (.int .i64 0) 8 rfl Tryd.underlying22 info3 rfl (by decide) (by omega) v277 y276 (rd l1 x6_1) [.int .i64 (rd l1 x6_1)] (fun k_ => some k_ ≠ (.slice (some ad268) x5_1.length co28 : Value).ownBlock) (fun _ => False) rfl rfl ?aP (fun _ hk => hk.elim) ?aF ?aO ?aB ?aS ?aL ?_; (case aP => exact rfl); (case aB => exact (by repeat (first | (with_reducible first | exact HB.out | apply below_alloc | apply pw_below_drewN | apply below_drew1 | refine below_set ?_ GE264.out) | exact HB.out))); (case aF => exact (fun k_ hk => Kd.fresh' (Kd.R_lt (by (with_reducible repeat (first | apply Kd.R_alloc | apply Kd.R_drewN | apply Kd.R_drew)); exact HO_5.out)) k_ hk)); (case aO => exact (by (with_reducible repeat (first | apply Kd.R_alloc | apply Kd.R_drewN | apply Kd.R_drew)); exact HO278.out)); (case aS => exact (below_size (by repeat (first | (with_reducible first | exact HB.out | apply below_alloc | apply pw_below_drewN | apply below_drew1 | refine below_set ?_ GE264.out) | exact HB.out)))); (case aL => have := LMc24.out; omega); intro v280 w33 ho hb hg hat; rw [← Ny279.out] at ho; have n0_ := Aside0.mk (Kd.R_after (ok := (fun _ => True)) (by (with_reducible repeat (first | apply Kd.R_alloc | apply Kd.R_drewN | apply Kd.R_drew)); exact HO_5.out) hg hat); have n1_ := Aside0.mk (blk_grown (g := gb264) (o := .cells #[.slice A0_0 l0_0.length c0_0] 24 (0, 0)) (by (with_reducible repeat (first | refine blk_drewN ?_ _ | refine blk_drew ?_ | refine blk_alloc ?_ _)); exact BK264.out) hg (Kd.R_ne HO278.out BK264.out (by decide))); have n2_ := Aside0.mk (hb); have n3_ := Aside0.mk ((show Kd.C (Kd.int .i64) w33 (some ad268) y272.length y272 from by rw [Ny272.out]; exact Kd.C_take (m := (x8_2 : Int).toNat) ((Kd.R_reads' (Kd.R_after (ok := (fun _ => True)) (by (with_reducible repeat (first | apply Kd.R_alloc | apply Kd.R_drewN | apply Kd.R_drew)); exact HO_5.out) hg hat)).2.2) KL31.out)); have n4_ := Aside0.mk (ho); clear HO_5; clear BK264; clear HB; clear HR275; clear HO278; have HO_5 := n0_; have BK264 := n1_; have HB := n2_; have HR275 := n3_; have HO281 := n4_; clear n0_ n1_ n2_ n3_ n4_; clear ho hb hg hat; have q34 : (x8_2 : Int) ≤ ((x5_1.length : Int) : Int) := of_decide_eq_true (by first | (with_reducible assumption) | assumption); obtain ⟨i034, hi034, _, hsz34, _⟩ := info_parts info3; have hroom34 : x5_1.length ≤ co28 := (Kd.R_reads' HO_5.out).2.1; have hC34 : Kd.C (Kd.int .i64) _ (some ad268) x5_1.length x5_1 := (Kd.R_reads' HO_5.out).2.2; have q034 : (0 : Int) ≤ (x8_2 : Int) := of_decide_eq_true (by first | (with_reducible assumption) | assumption); have hcut34 := cut_from (P := Tryd.prog) 22 3 .i64 Tryd.underlying22 hi034 1 hsz34 (some ad268) x5_1.length co28 x8_2 q034 q34; have hr34 := Kd.C_drop (m := (x8_2 : Int).toNat) (c := co28) hC34 (by omega) hroom34; obtain ⟨A34, hA34⟩ : ∃ A1, A1 = (if co28 = (x8_2 : Int).toNat then (some ad268) else ((some ad268) : Option Addr).map (·.add ((x8_2 : Int).toNat * 1))) := ⟨_, rfl⟩; obtain ⟨c34, hc34⟩ : ∃ c1, c1 = co28 - (x8_2 : Int).toNat := ⟨_, rfl⟩; have hy34 : y282.length = x5_1.length - (x8_2 : Int).toNat := (by rw [Ny282.out, List.length_drop] <;> omega); rw [show (x5_1).drop (x8_2 : Int).toNat = y282 from Ny282.out.symm] at hr34; replace hr34 : Kd.C (Kd.int .i64) _ A34 y282.length y282 := (by rw [hA34]; exact hr34); rw [← hy34, ← hA34, ← hc34] at hcut34; have HR285 := Aside0.mk hr34; have HC285 := Aside0.mk (show y282.length ≤ c34 from by rw [hy34, hc34]; exact Nat.sub_le_sub_right hroom34 _); clear hr34 hC34 hroom34 hi034 hsz34 hc34; have KY34 := Aside0.mk hy34; have KA34 := Aside0.mk hA34; clear hy34 hA34; have KL34 := Aside0.mk (show (x8_2 : Int).toNat ≤ x5_1.length from by omega); replace q34 := eq_true q34) | ((with_reducible refine gate_builtin (b := .append) (xs := #[.tmp 62, .tmp 65]) rfl ?_); at_builtin; refine Kd.R_append_rows (Kd.int .i64) (w0 := w) w.heap.size rfl (.tmp 62) (.tmp 65) 22 3 (.int .i64 0) 8 rfl Tryd.underlying22 info3 rfl (by decide) (by omega) v280 y279 y282 _ _ _ (fun k_ => some k_ ≠ (.slice (some ad268) x5_1.length co28 : Value).ownBlock) (fun _ => False) rfl rfl ?aO ?aR (fun _ _ h => h) (fun _ h => h.elim) ?aF ?aB ?aS ?aL ?_; (case aR => repeat (first | exact (by repeat (first | (with_reducible exact HR285.out) | (with_reducible refine Kd.C_alloc ?_ _) | (with_reducible refine Kd.C_drewN ?_ _) | (with_reducible refine Kd.C_drew ?_) | exact HR285.out)) | (with_reducible refine Kd.C_alloc ?_ _) | (with_reducible refine Kd.C_drewN ?_ _) | (with_reducible refine Kd.C_drew ?_))); (case aB => exact (by repeat (first | (with_reducible first | exact HB.out | apply below_alloc | apply pw_below_drewN | apply below_drew1 | refine below_set ?_ GE264.out) | exact HB.out))); (case aF => exact (fun k_ hk => Kd.fresh' (Kd.R_lt (by (with_reducible repeat (first | apply Kd.R_alloc | apply Kd.R_drewN | apply Kd.R_drew)); exact HO_5.out)) k_ hk)); (case aO => exact (by (with_reducible repeat (first | apply Kd.R_alloc | apply Kd.R_drewN | apply Kd.R_drew)); exact HO281.out)); (case aS => exact (below_size (by repeat (first | (with_reducible first | exact HB.out | apply below_alloc | apply pw_below_drewN | apply below_drew1 | refine below_set ?_ GE264.out) | exact HB.out)))); (case aL => have := LMc27.out; omega); intro v287 w35 ho hb hg hat; rw [← Ny286.out] at ho; have n0_ := Aside0.mk (Kd.R_after (ok := (fun _ => True)) (by (with_reducible repeat (first | apply Kd.R_alloc | apply Kd.R_drewN | apply Kd.R_drew)); exact HO_5.out) hg hat); have n1_ := Aside0.mk (blk_grown (g := gb264) (o := .cells #[.slice A0_0 l0_0.length c0_0] 24 (0, 0)) (by (with_reducible repeat (first | refine blk_drewN ?_ _ | refine blk_drew ?_ | refine blk_alloc ?_ _)); exact BK264.out) hg (Kd.R_ne HO281.out BK264.out (by decide))); have n2_ := Aside0.mk (hb); have n3_ := Aside0.mk ((show Kd.C (Kd.int .i64) w35 (some ad268) y272.length y272 from by rw [Ny272.out]; exact Kd.C_take (m := (x8_2 : Int).toNat) ((Kd.R_reads' (Kd.R_after (ok := (fun _ => True)) (by (with_reducible repeat (first | apply Kd.R_alloc | apply Kd.R_drewN | apply Kd.R_drew)); exact HO_5.out) hg hat)).2.2) KL31.out)); have n4_ := Aside0.mk ((show Kd.C (Kd.int .i64) w35 A34 y282.length y282 from by rw [Ny282.out, KA34.out]; exact Kd.C_drop (m := (x8_2 : Int).toNat) (c := co28) ((Kd.R_reads' (Kd.R_after (ok := (fun _ => True)) (by (with_reducible repeat (first | apply Kd.R_alloc | apply Kd.R_drewN | apply Kd.R_drew)); exact HO_5.out) hg hat)).2.2) KL34.out ((Kd.R_reads' (Kd.R_after (ok := (fun _ => True)) (by (with_reducible repeat (first | apply Kd.R_alloc | apply Kd.R_drewN | apply Kd.R_drew)); exact HO_5.out) hg hat)).2.1))); have n5_ := Aside0.mk (ho); clear HO_5; clear BK264; clear HB; clear HR275; clear HR285; clear HO281; have HO_5 := n0_; have BK264 := n1_; have HB := n2_; have HR275 := n3_; have HR285 := n4_; have HO288 := n5_; clear n0_ n1_ n2_ n3_ n4_ n5_; clear ho hb hg hat))
                                  go_roundg k2
                                  case measure => have := HK1.out; have := HK2.out; omega
                                  case rel => exact ⟨(y286), (wrap64 (x6_1 + 1)), (by first | rfl | (simp; done) | (simp [*]; done)), H', ⟨by have := HK1.out; have := HK2.out; omega⟩, ⟨by (with_reducible repeat (first | apply Kd.R_alloc | apply Kd.R_drewN | apply Kd.R_drew)); exact Kd.R_mono HO288.out (fun _ hk => trivial)⟩, ⟨by (with_reducible repeat (first | refine blk_drewN ?_ _ | refine blk_drew ?_ | refine blk_alloc ?_ _)); exact BK264.out⟩, ⟨by repeat (first | (with_reducible first | exact HB.out | apply below_alloc | apply pw_below_drewN | apply below_drew1 | refine below_set ?_ GE264.out) | exact HB.out)⟩⟩
                                · rw [if_neg c27] at H
                                  exact absurd H (by simp)
                              · rw [if_neg c24] at H
                                exact absurd H (by simp)
                            · rw [if_neg c23] at H
                              exact absurd H (by simp)
                          · rw [if_neg c22] at H
                            exact absurd H (by simp)
                        · rw [if_neg c20] at H
                          have c20b0 : (x8_2 == (x5_1.length : Int)) = false := beq_eq_false_iff_ne.mpr c20
                          have c20b1 : (x8_2 != (x5_1.length : Int)) = true := bne_iff_ne.mpr c20
                          by_cases c36 : (rd x5_1 x8_2) = (rd l1 x6_1)
                          · rw [if_pos c36] at H
                            have c36b0 : ((rd x5_1 x8_2) == (rd l1 x6_1)) = true := beq_iff_eq.mpr c36
                            have c36b1 : ((rd x5_1 x8_2) != (rd l1 x6_1)) = false := bne_eq_false_iff_eq.mpr c36
                            clear c36
                            have H' := Aside0.mk H
                            clear H
                            obtain ⟨Ao37, co37, eo37⟩ := Kd.R_slice HO_5.out
                            subst eo37
                            have p268 : 0 ≤ (x8_2 : Int) := of_decide_eq_true (by first | (with_reducible assumption) | assumption)
                            have q268 : x8_2 < (x5_1.length : Int) := of_decide_eq_true (by first | (with_reducible assumption) | assumption)
                            obtain ⟨ad268, e268, hx268_0⟩ := Kd.at_int (Kd.R_reads' HO_5.out).2.2 x8_2 p268 q268
                            cases e268
                            replace p268 := eq_true p268
                            replace q268 := eq_true q268
                            have p289 : 0 ≤ (x8_2 : Int) := of_decide_eq_true (by first | (with_reducible assumption) | assumption)
                            have q289 : x8_2 < (x5_1.length : Int) := of_decide_eq_true (by first | (with_reducible assumption) | assumption)
                            obtain ⟨ad289, e289, hx289_0⟩ := Kd.at_int (Kd.R_reads' HO_5.out).2.2 x8_2 p289 q289
                            obtain rfl : ad268 = ad289 := (by injection e289)
                            replace p289 := eq_true p289
                            replace q289 := eq_true q289
                            go_wp2
                            go_roundg k2
                            case measure => have := HK1.out; have := HK2.out; omega
                            case rel => exact ⟨(x5_1), (wrap64 (x6_1 + 1)), (by first | rfl | (simp; done) | (simp [*]; done)), H', ⟨by have := HK1.out; have := HK2.out; omega⟩, ⟨by (with_reducible repeat (first | apply Kd.R_alloc | apply Kd.R_drewN | apply Kd.R_drew)); exact HO_5.out⟩, ⟨by (with_reducible repeat (first | refine blk_drewN ?_ _ | refine blk_drew ?_ | refine blk_alloc ?_ _)); exact BK264.out⟩, ⟨by repeat (first | (with_reducible first | exact HB.out | apply below_alloc | apply pw_below_drewN | apply below_drew1 | refine below_set ?_ GE264.out) | exact HB.out)⟩⟩
                          · rw [if_neg c36] at H
                            have c36b0 : ((rd x5_1 x8_2) == (rd l1 x6_1)) = false := beq_eq_false_iff_ne.mpr c36
                            have c36b1 : ((rd x5_1 x8_2) != (rd l1 x6_1)) = true := bne_iff_ne.mpr c36
                            obtain ⟨y290, hy290⟩ : ∃ y_ : List Int, y_ = (([] : List Int)) := ⟨_, rfl⟩
                            replace H : (if x8_2 ≤ (x5_1.length : Int) then ((some (x5_1.take (x8_2 : Int).toNat : List Int)).bind fun y293 => (if y290.length + y293.length < 17592186044416 then ((some (y290 ++ y293 : List Int)).bind fun y297 => (if y297.length < 17592186044416 then ((some (y297 ++ [(rd l1 x6_1)] : List Int)).bind fun y300 => ((some (x5_1.drop (x8_2 : Int).toNat : List Int)).bind fun y303 => (if y300.length + y303.length < 17592186044416 then (unicodetextref06_Missing.l0 k2 l1 (y300 ++ y303) (wrap64 (x6_1 + 1)) l0_0) else (none)))) else (none))) else (none))) else (none)) = some r := by first | (rw [hy290]; with_reducible exact H) | (have H2_ := (Option.bind_some _ _).symm.trans H; rw [hy290]; with_reducible exact H2_) | (have H2_ := (Option.bind_some _ _).symm.trans H; with_reducible exact H2_) | with_reducible exact H | (rw [hy290]; exact H) | exact H
                            have Ny290 := Aside0.mk hy290
                            clear hy290
                            have c38b0 := eq_true (of_decide_eq_true (by first | (with_reducible assumption) | assumption) : 0 ≤ x8_2)
                            by_cases c39 : x8_2 ≤ (x5_1.length : Int)
                            · rw [if_pos c39] at H
                              have c39b0 := eq_true c39
                              have c39b1 : decide (x8_2 ≤ (x5_1.length : Int)) = true := decide_eq_true c39
                              clear c39
                              obtain ⟨y293, hy293⟩ : ∃ y_ : List Int, y_ = (x5_1.take (x8_2 : Int).toNat) := ⟨_, rfl⟩
                              replace H : (if y290.length + y293.length < 17592186044416 then ((some (y290 ++ y293 : List Int)).bind fun y297 => (if y297.length < 17592186044416 then ((some (y297 ++ [(rd l1 x6_1)] : List Int)).bind fun y300 => ((some (x5_1.drop (x8_2 : Int).toNat : List Int)).bind fun y303 => (if y300.length + y303.length < 17592186044416 then (unicodetextref06_Missing.l0 k2 l1 (y300 ++ y303) (wrap64 (x6_1 + 1)) l0_0) else (none)))) else (none))) else (none)) = some r := by first | (rw [hy293]; with_reducible exact H) | (have H2_ := (Option.bind_some _ _).symm.trans H; rw [hy293]; with_reducible exact H2_) | (have H2_ := (Option.bind_some _ _).symm.trans H; with_reducible exact H2_) | with_reducible exact H | (rw [hy293]; exact H) | exact H
                              have Ny293 := Aside0.mk hy293
                              clear hy293
                              by_cases c40 : y290.length + y293.length < 17592186044416
                              · rw [if_pos c40] at H
                                have LMc40 := Aside0.mk c40
                                clear c40
                                obtain ⟨y297, hy297⟩ : ∃ y_ : List Int, y_ = (y290 ++ y293) := ⟨_, rfl⟩
                                replace H : (if y297.length < 17592186044416 then ((some (y297 ++ [(rd l1 x6_1)] : List Int)).bind fun y300 => ((some (x5_1.drop (x8_2 : Int).toNat : List Int)).bind fun y303 => (if y300.length + y303.length < 17592186044416 then (unicodetextref06_Missing.l0 k2 l1 (y300 ++ y303) (wrap64 (x6_1 + 1)) l0_0) else (none)))) else (none)) = some r := by first | (rw [hy297]; with_reducible exact H) | (have H2_ := (Option.bind_some _ _).symm.trans H; rw [hy297]; with_reducible exact H2_) | (have H2_ := (Option.bind_some _ _).symm.trans H; with_reducible exact H2_) | with_reducible exact H | (rw [hy297]; exact H) | exact H
                                have Ny297 := Aside0.mk hy297
                                clear hy297
                                by_cases c41 : y297.length < 17592186044416
                                · rw [if_pos c41] at H
                                  have LMc41 := Aside0.mk c41
                                  clear c41
                                  obtain ⟨y300, hy300⟩ : ∃ y_ : List Int, y_ = (y297 ++ [(rd l1 x6_1)]) := ⟨_, rfl⟩
                                  replace H : ((some (x5_1.drop (x8_2 : Int).toNat : List Int)).bind fun y303 => (if y300.length + y303.length < 17592186044416 then (unicodetextref06_Missing.l0 k2 l1 (y300 ++ y303) (wrap64 (x6_1 + 1)) l0_0) else (none))) = some r := by first | (rw [hy300]; with_reducible exact H) | (have H2_ := (Option.bind_some _ _).symm.trans H; rw [hy300]; with_reducible exact H2_) | (have H2_ := (Option.bind_some _ _).symm.trans H; with_reducible exact H2_) | with_reducible exact H | (rw [hy300]; exact H) | exact H
                                  have Ny300 := Aside0.mk hy300
                                  clear hy300
                                  have c42b0 := eq_true (of_decide_eq_true (by first | (with_reducible assumption) | assumption) : 0 ≤ x8_2)
                                  have c43b0 := eq_true (of_decide_eq_true (by first | (with_reducible assumption) | assumption) : x8_2 ≤ (x5_1.length : Int))
                                  obtain ⟨y303, hy303⟩ : ∃ y_ : List Int, y_ = (x5_1.drop (x8_2 : Int).toNat) := ⟨_, rfl⟩
                                  replace H : (if y300.length + y303.length < 17592186044416 then (unicodetextref06_Missing.l0 k2 l1 (y300 ++ y303) (wrap64 (x6_1 + 1)) l0_0) else (none)) = some r := by first | (rw [hy303]; with_reducible exact H) | (have H2_ := (Option.bind_some _ _).symm.trans H; rw [hy303]; with_reducible exact H2_) | (have H2_ := (Option.bind_some _ _).symm.trans H; with_reducible exact H2_) | with_reducible exact H | (rw [hy303]; exact H) | exact H
                                  have Ny303 := Aside0.mk hy303
                                  clear hy303
                                  by_cases c44 : y300.length + y303.length < 17592186044416
                                  · rw [if_pos c44] at H
                                    have LMc44 := Aside0.mk c44
                                    clear c44
                                    obtain ⟨y307, hy307⟩ : ∃ y_ : List Int, y_ = (y300 ++ y303) := ⟨_, rfl⟩
                                    replace H : (unicodetextref06_Missing.l0 k2 l1 y307 (wrap64 (x6_1 + 1)) l0_0) = some r := by first | (rw [hy307]; with_reducible exact H) | (have H2_ := (Option.bind_some _ _).symm.trans H; rw [hy307]; with_reducible exact H2_) | (have H2_ := (Option.bind_some _ _).symm.trans H; with_reducible exact H2_) | with_reducible exact H | (rw [hy307]; exact H) | exact H
                                    have Ny307 := Aside0.mk hy307
                                    clear hy307
                                    have H' := Aside0.mk H
                                    clear H
                                    obtain ⟨Ao45, co45, eo45⟩ := Kd.R_slice HO_5.out
                                    subst eo45
                                    have p268 : 0 ≤ (x8_2 : Int) := of_decide_eq_true (by first | (with_reducible assumption) | assumption)
                                    have q268 : x8_2 < (x5_1.length : Int) := of_decide_eq_true (by first | (with_reducible assumption) | assumption)
                                    obtain ⟨ad268, e268, hx268_0⟩ := Kd.at_int (Kd.R_reads' HO_5.out).2.2 x8_2 p268 q268
                                    cases e268
                                    replace p268 := eq_true p268
                                    replace q268 := eq_true q268
                                    have p289 : 0 ≤ (x8_2 : Int) := of_decide_eq_true (by first | (with_reducible assumption) | assumption)
                                    have q289 : x8_2 < (x5_1.length : Int) := of_decide_eq_true (by first | (with_reducible assumption) | assumption)
                                    obtain ⟨ad289, e289, hx289_0⟩ := Kd.at_int (Kd.R_reads' HO_5.out).2.2 x8_2 p289 q289
                                    obtain rfl : ad268 = ad289 := (by injection e289)
                                    replace p289 := eq_true p289
                                    replace q289 := eq_true q289
                                    go_wp2_with (first | ((with_reducible refine gate_dst (N := 53) rfl ?_); refine Kd.R_lit (Kd.int .i64) _ 3 ?hg (N := 53) ?hd (xs := ([] : List Int)) (inner := []) (ok := fun _ => True) (okp := fun _ => True) ?hr ?hp (fun _ hk => hk) trivial (Below.refl _ _) (Nat.le_refl _) (by simp) ?_; (case hd => rfl); (case hg => rfl); (case hr => first | (go_simp; done) | (go_simp; rfl)); (case hp => exact (Reps.none _ _)); intro v291 w46 ho47 hb hg_ hnew_; clear hg_ hnew_; (first | rw [← Ny290.out] at ho47 | (simp only [Int.reduceToNat] at ho47; rw [← Ny290.out] at ho47)); have n0_ := Aside0.mk (Kd.R_elder' (by (with_reducible repeat (first | apply Kd.R_alloc | apply Kd.R_drewN | apply Kd.R_drew)); exact HO_5.out) (Kd.R_base ho47) hb); have n1_ := Aside0.mk (Kd.R_lower (Kd.R_new' ho47 (Kd.R_lt (by (with_reducible repeat (first | apply Kd.R_alloc | apply Kd.R_drewN | apply Kd.R_drew)); exact HO_5.out))) (below_size (by repeat (first | (with_reducible first | exact HB.out | apply below_alloc | apply pw_below_drewN | apply below_drew1 | refine below_set ?_ GE264.out) | exact HB.out)))); have n2_ := Aside0.mk (blk_below (g := gb264) (o := .cells #[.slice A0_0 l0_0.length c0_0] 24 (0, 0)) (by (with_reducible repeat (first | refine blk_drewN ?_ _ | refine blk_drew ?_ | refine blk_alloc ?_ _)); exact BK264.out) hb); have n3_ := Aside0.mk (below_step (by repeat (first | (with_reducible first | exact HB.out | apply below_alloc | apply pw_below_drewN | apply below_drew1 | refine below_set ?_ GE264.out) | exact HB.out)) hb); clear HO_5; clear BK264; clear HB; have HO_5 := n0_; have HO292 := n1_; have BK264 := n2_; have HB := n3_; clear n0_ n1_ n2_ n3_; clear hb ho47; have q48 : (x8_2 : Int) ≤ ((x5_1.length : Int) : Int) := of_decide_eq_true (by first | (with_reducible assumption) | assumption); obtain ⟨i048, hi048, _, hsz48, _⟩ := info_parts info3; have hroom48 : x5_1.length ≤ co45 := (Kd.R_reads' HO_5.out).2.1; have hC48 : Kd.C (Kd.int .i64) _ (some ad268) x5_1.length x5_1 := (Kd.R_reads' HO_5.out).2.2; have hcut48 := cut_to (P := Tryd.prog) 22 3 .i64 Tryd.underlying22 hi048 (some ad268) x5_1.length co45 x8_2 (of_decide_eq_true (by first | (with_reducible assumption) | assumption)) q48 hroom48; have hr48 := Kd.C_take (m := (x8_2 : Int).toNat) hC48 (by omega); have hy48 : y293.length = (x8_2 : Int).toNat := (by rw [Ny293.out, List.length_take]; omega); rw [← Ny293.out] at hr48; rw [← hy48] at hcut48; have HR296 := Aside0.mk hr48; have HC296 := Aside0.mk (show y293.length ≤ co45 from by omega); clear hr48 hC48 hroom48 hi048 hsz48; have KY48 := Aside0.mk hy48; clear hy48; have KL48 := Aside0.mk (show (x8_2 : Int).toNat ≤ x5_1.length from by omega); replace q48 := eq_true q48) | ((with_reducible refine gate_builtin (b := .append) (xs := #[.tmp 53, .tmp 56]) rfl ?_); at_builtin; refine Kd.R_append_rows (Kd.int .i64) (w0 := w) w.heap.size rfl (.tmp 53) (.tmp 56) 22 3 (.int .i64 0) 8 rfl Tryd.underlying22 info3 rfl (by decide) (by omega) v291 y290 y293 _ _ _ (fun k_ => some k_ ≠ (.slice (some ad268) x5_1.length co45 : Value).ownBlock) (fun _ => False) rfl rfl ?aO ?aR (fun _ _ h => h) (fun _ h => h.elim) ?aF ?aB ?aS ?aL ?_; (case aR => repeat (first | exact (by repeat (first | (with_reducible exact HR296.out) | (with_reducible refine Kd.C_alloc ?_ _) | (with_reducible refine Kd.C_drewN ?_ _) | (with_reducible refine Kd.C_drew ?_) | exact HR296.out)) | (with_reducible refine Kd.C_alloc ?_ _) | (with_reducible refine Kd.C_drewN ?_ _) | (with_reducible refine Kd.C_drew ?_))); (case aB => exact (by repeat (first | (with_reducible first | exact HB.out | apply below_alloc | apply pw_below_drewN | apply below_drew1 | refine below_set ?_ GE264.out) | exact HB.out))); (case aF => exact (fun k_ hk => Kd.fresh' (Kd.R_lt (by (with_reducible repeat (first | apply Kd.R_alloc | apply Kd.R_drewN | apply Kd.R_drew)); exact HO_5.out)) k_ hk)); (case aO => exact (by (with_reducible repeat (first | apply Kd.R_alloc | apply Kd.R_drewN | apply Kd.R_drew)); exact Kd.R_mono HO292.out (fun _ hk => hk.2))); (case aS => exact (below_size (by repeat (first | (with_reducible first | exact HB.out | apply below_alloc | apply pw_below_drewN | apply below_drew1 | refine below_set ?_ GE264.out) | exact HB.out)))); (case aL => have := LMc40.out; omega); intro v298 w49 ho hb hg hat; rw [← Ny297.out] at ho; have n0_ := Aside0.mk (Kd.R_after (ok := (fun _ => True)) (by (with_reducible repeat (first | apply Kd.R_alloc | apply Kd.R_drewN | apply Kd.R_drew)); exact HO_5.out) hg hat); have n1_ := Aside0.mk (blk_grown (g := gb264) (o := .cells #[.slice A0_0 l0_0.length c0_0] 24 (0, 0)) (by (with_reducible repeat (first | refine blk_drewN ?_ _ | refine blk_drew ?_ | refine blk_alloc ?_ _)); exact BK264.out) hg (Kd.R_ne HO292.out BK264.out (by decide))); have n2_ := Aside0.mk (hb); have n3_ := Aside0.mk ((show Kd.C (Kd.int .i64) w49 (some ad268) y293.length y293 from by rw [Ny293.out]; exact Kd.C_take (m := (x8_2 : Int).toNat) ((Kd.R_reads' (Kd.R_after (ok := (fun _ => True)) (by (with_reducible repeat (first | apply Kd.R_alloc | apply Kd.R_drewN | apply Kd.R_drew)); exact HO_5.out) hg hat)).2.2) KL48.out)); have n4_ := Aside0.mk (ho); clear HO_5; clear BK264; clear HB; clear HR296; clear HO292; have HO_5 := n0_; have BK264 := n1_; have HB := n2_; have HR296 := n3_; have HO299 := n4_; clear n0_ n1_ n2_ n3_ n4_; clear ho hb hg hat) | ((with_reducible refine gate_builtin (b := .append) (xs := #[.tmp 58, .tmp 60]) rfl ?_); at_builtin; refine Kd.R_append (Kd.int .i64) (w0 := w) w.heap.size rfl (.tmp 58) (.tmp 60) 22 3 (.int .i64 0) 8 rfl Tryd.underlying22 info3 rfl (by decide) (by omega) v298 y297 (rd l1 x6_1) [.int .i64 (rd l1 x6_1)] (fun k_ => some k_ ≠ (.slice (some ad268) x5_1.length co45 : Value).ownBlock) (fun _ => False) rfl rfl ?aP (fun _ hk => hk.elim) ?aF ?aO ?aB ?aS ?aL ?_; (case aP => exact rfl); (case aB => exact (by repeat (first | (with_reducible first | exact HB.out | apply below_alloc | apply pw_below_drewN | apply below_drew1 | refine below_set ?_ GE264.out) | exact HB.out))); (case aF => exact (fun k_ hk => Kd.fresh' (Kd.R_lt (by (with_reducible repeat (first | apply Kd.R_alloc | apply Kd.R_drewN | apply Kd.R_drew)); exact HO_5.out)) k_ hk)); (case aO => exact (by (with_reducible repeat (first | apply Kd.R_alloc | apply Kd.R_drewN | apply Kd.R_drew)); exact HO299.out)); (case aS => exact (below_size (by repeat (first | (with_reducible first | exact HB.out | apply below_alloc | apply pw_below_drewN | apply below_drew1 | refine below_set ?_ GE264.out) | exact HB.out)))); (case aL => have := LMc41.out; omega); intro v301 w50 ho hb hg hat; rw [← Ny300.out] at ho; have n0_ := Aside0.mk (Kd.R_after (ok := (fun _ => True)) (by (with_reducible repeat (first | apply Kd.R_alloc | apply Kd.R_drewN | apply Kd.R_drew)); exact HO_5.out) hg hat); have n1_ := Aside0.mk (blk_grown (g := gb264) (o := .cells #[.slice A0_0 l0_0.length c0_0] 24 (0, 0)) (by (with_reducible repeat (first | refine blk_drewN ?_ _ | refine blk_drew ?_ | refine blk_alloc ?_ _)); exact BK264.out) hg (Kd.R_ne HO299.out BK264.out (by decide))); have n2_ := Aside0.mk (hb); have n3_ := Aside0.mk ((show Kd.C (Kd.int .i64) w50 (some ad268) y293.length y293 from by rw [Ny293.out]; exact Kd.C_take (m := (x8_2 : Int).toNat) ((Kd.R_reads' (Kd.R_after (ok := (fun _ => True)) (by (with_reducible repeat (first | apply Kd.R_alloc | apply Kd.R_drewN | apply Kd.R_drew)); exact HO_5.out) hg hat)).2.2) KL48.out)); have n4_ := Aside0.mk (ho); clear HO_5; clear BK264; clear HB; clear HR296; clear HO299; have HO_5 := n0_; have BK264 := n1_; have HB := n2_; have HR296 := n3_; have HO302 := n4_; clear n0_ n1_ n2_ n3_ n4_; clear ho hb hg hat; have q51 : (x8_2 : Int) ≤ ((x5_1.length : Int) : Int) := of_decide_eq_true (by first | (with_reducible assumption) | assumption); obtain ⟨i051, hi051, _, hsz51, _⟩ := info_parts info3; have hroom51 : x5_1.length ≤ co45 := (Kd.R_reads' HO_5.out).2.1; have hC51 : Kd.C (Kd.int .i64) _ (some ad268) x5_1.length x5_1 := (Kd.R_reads' HO_5.out).2.2; have q051 : (0 : Int) ≤ (x8_2 : Int) := of_decide_eq_true (by first | (with_reducible assumption) | assumption); have hcut51 := cut_from (P := Tryd.prog) 22 3 .i64 Tryd.underlying22 hi051 1 hsz51 (some ad268) x5_1.length co45 x8_2 q051 q51; have hr51 := Kd.C_drop (m := (x8_2 : Int).toNat) (c := co45) hC51 (by omega) hroom51; obtain ⟨A51, hA51⟩ : ∃ A1, A1 = (if co45 = (x8_2 : Int).toNat then (some ad268) else ((some ad268) : Option Addr).map (·.add ((x8_2 : Int).toNat * 1))) := ⟨_, rfl⟩; obtain ⟨c51, hc51⟩ : ∃ c1, c1 = co45 - (x8_2 : Int).toNat := ⟨_, rfl⟩; have hy51 : y303.length = x5_1.length - (x8_2 : Int).toNat := (by rw [Ny303.out, List.length_drop] <;> omega); rw [show (x5_1).drop (x8_2 : Int).toNat = y303 from Ny303.out.symm] at hr51; replace hr51 : Kd.C (Kd.int .i64) _ A51 y303.length y303 := (by rw [hA51]; exact hr51); rw [← hy51, ← hA51, ← hc51] at hcut51; have HR306 := Aside0.mk hr51; have HC306 := Aside0.mk (show y303.length ≤ c51 from by rw [hy51, hc51]; exact Nat.sub_le_sub_right hroom51 _); clear hr51 hC51 hroom51 hi051 hsz51 hc51; have KY51 := Aside0.mk hy51; have KA51 := Aside0.mk hA51; clear hy51 hA51; have KL51 := Aside0.mk (show (x8_2 : Int).toNat ≤ x5_1.length from by omega); replace q51 := eq_true q51) | ((with_reducible refine gate_builtin (b := .append) (xs := #[.tmp 62, .tmp 65]) rfl ?_); at_builtin; refine Kd.R_append_rows (Kd.int .i64) (w0 := w) w.heap.size rfl (.tmp 62) (.tmp 65) 22 3 (.int .i64 0) 8 rfl Tryd.underlying22 info3 rfl (by decide) (by omega) v301 y300 y303 _ _ _ (fun k_ => some k_ ≠ (.slice (some ad268) x5_1.length co45 : Value).ownBlock) (fun _ => False) rfl rfl ?aO ?aR (fun _ _ h => h) (fun _ h => h.elim) ?aF ?aB ?aS ?aL ?_; (case aR => repeat (first | exact (by repeat (first | (with_reducible exact HR306.out) | (with_reducible refine Kd.C_alloc ?_ _) | (with_reducible refine Kd.C_drewN ?_ _) | (with_reducible refine Kd.C_drew ?_) | exact HR306.out)) | (with_reducible refine Kd.C_alloc ?_ _) | (with_reducible refine Kd.C_drewN ?_ _) | (with_reducible refine Kd.C_drew ?_))); (case aB => exact (by repeat (first | (with_reducible first | exact HB.out | apply below_alloc | apply pw_below_drewN | apply below_drew1 | refine below_set ?_ GE264.out) | exact HB.out))); (case aF => exact (fun k_ hk => Kd.fresh' (Kd.R_lt (by (with_reducible repeat (first | apply Kd.R_alloc | apply Kd.R_drewN | apply Kd.R_drew)); exact HO_5.out)) k_ hk)); (case aO => exact (by (with_reducible repeat (first | apply Kd.R_alloc | apply Kd.R_drewN | apply Kd.R_drew)); exact HO302.out)); (case aS => exact (below_size (by repeat (first | (with_reducible first | exact HB.out | apply below_alloc | apply pw_below_drewN | apply below_drew1 | refine below_set ?_ GE264.out) | exact HB.out)))); (case aL => have := LMc44.out; omega); intro v308 w52 ho hb hg hat; rw [← Ny307.out] at ho; have n0_ := Aside0.mk (Kd.R_after (ok := (fun _ => True)) (by (with_reducible repeat (first | apply Kd.R_alloc | apply Kd.R_drewN | apply Kd.R_drew)); exact HO_5.out) hg hat); have n1_ := Aside0.mk (blk_grown (g := gb264) (o := .cells #[.slice A0_0 l0_0.length c0_0] 24 (0, 0)) (by (with_reducible repeat (first | refine blk_drewN ?_ _ | refine blk_drew ?_ | refine blk_alloc ?_ _)); exact BK264.out) hg (Kd.R_ne HO302.out BK264.out (by decide))); have n2_ := Aside0.mk (hb); have n3_ := Aside0.mk ((show Kd.C (Kd.int .i64) w52 (some ad268) y293.length y293 from by rw [Ny293.out]; exact Kd.C_take (m := (x8_2 : Int).toNat) ((Kd.R_reads' (Kd.R_after (ok := (fun _ => True)) (by (with_reducible repeat (first | apply Kd.R_alloc | apply Kd.R_drewN | apply Kd.R_drew)); exact HO_5.out) hg hat)).2.2) KL48.out)); have n4_ := Aside0.mk ((show Kd.C (Kd.int .i64) w52 A51 y303.length y303 from by rw [Ny303.out, KA51.out]; exact Kd.C_drop (m := (x8_2 : Int).toNat) (c := co45) ((Kd.R_reads' (Kd.R_after (ok := (fun _ => True)) (by (with_reducible repeat (first | apply Kd.R_alloc | apply Kd.R_drewN | apply Kd.R_drew)); exact HO_5.out) hg hat)).2.2) KL51.out ((Kd.R_reads' (Kd.R_after (ok := (fun _ => True)) (by (with_reducible repeat (first | apply Kd.R_alloc | apply Kd.R_drewN | apply Kd.R_drew)); exact HO_5.out) hg hat)).2.1))); have n5_ := Aside0.mk (ho); clear HO_5; clear BK264; clear HB; clear HR296; clear HR306; clear HO302; have HO_5 := n0_; have BK264 := n1_; have HB := n2_; have HR296 := n3_; have HR306 := n4_; have HO309 := n5_; clear n0_ n1_ n2_ n3_ n4_ n5_; clear ho hb hg hat))
                                    go_roundg k2
                                    case measure => have := HK1.out; have := HK2.out; omega
                                    case rel => exact ⟨(y307), (wrap64 (x6_1 + 1)), (by first | rfl | (simp; done) | (simp [*]; done)), H', ⟨by have := HK1.out; have := HK2.out; omega⟩, ⟨by (with_reducible repeat (first | apply Kd.R_alloc | apply Kd.R_drewN | apply Kd.R_drew)); exact Kd.R_mono HO309.out (fun _ hk => trivial)⟩, ⟨by (with_reducible repeat (first | refine blk_drewN ?_ _ | refine blk_drew ?_ | refine blk_alloc ?_ _)); exact BK264.out⟩, ⟨by repeat (first | (with_reducible first | exact HB.out | apply below_alloc | apply pw_below_drewN | apply below_drew1 | refine below_set ?_ GE264.out) | exact HB.out)⟩⟩
                                  · rw [if_neg c44] at H
                                    exact absurd H (by simp)
                                · rw [if_neg c41] at H
                                  exact absurd H (by simp)
                              · rw [if_neg c40] at H
                                exact absurd H (by simp)
                            · rw [if_neg c39] at H
                              exact absurd H (by simp)
                    · rw [if_neg c17] at H
                      exact absurd H (by simp)
                  · rw [if_neg c16] at H
                    have c16b0 : decide (x8_2 < (x5_1.length : Int)) = false := decide_eq_false c16
                    clear c16
                    by_cases c53 : x8_2 = (x5_1.length : Int)
                    · rw [if_pos c53] at H
                      have c53b0 : (x8_2 == (x5_1.length : Int)) = true := beq_iff_eq.mpr c53
                      have c53b1 : (x8_2 != (x5_1.length : Int)) = false := bne_eq_false_iff_eq.mpr c53
                      clear c53
                      obtain ⟨y310, hy310⟩ : ∃ y_ : List Int, y_ = (([] : List Int)) := ⟨_, rfl⟩
                      replace H : (if 0 ≤ x8_2 then (if x8_2 ≤ (x5_1.length : Int) then ((some (x5_1.take (x8_2 : Int).toNat : List Int)).bind fun y313 => (if y310.length + y313.length < 17592186044416 then ((some (y310 ++ y313 : List Int)).bind fun y317 => (if y317.length < 17592186044416 then ((some (y317 ++ [(rd l1 x6_1)] : List Int)).bind fun y320 => ((some (x5_1.drop (x8_2 : Int).toNat : List Int)).bind fun y323 => (if y320.length + y323.length < 17592186044416 then (unicodetextref06_Missing.l0 k2 l1 (y320 ++ y323) (wrap64 (x6_1 + 1)) l0_0) else (none)))) else (none))) else (none))) else (none)) else (none)) = some r := by first | (rw [hy310]; with_reducible exact H) | (have H2_ := (Option.bind_some _ _).symm.trans H; rw [hy310]; with_reducible exact H2_) | (have H2_ := (Option.bind_some _ _).symm.trans H; with_reducible exact H2_) | with_reducible exact H | (rw [hy310]; exact H) | exact H
                      have Ny310 := Aside0.mk hy310
                      clear hy310
                      by_cases c54 : 0 ≤ x8_2
                      · rw [if_pos c54] at H
                        have c54b0 := eq_true c54
                        have c54b1 : decide (0 ≤ x8_2) = true := decide_eq_true c54
                        clear c54
                        by_cases c55 : x8_2 ≤ (x5_1.length : Int)
                        · rw [if_pos c55] at H
                          have c55b0 := eq_true c55
                          have c55b1 : decide (x8_2 ≤ (x5_1.length : Int)) = true := decide_eq_true c55
                          clear c55
                          obtain ⟨y313, hy313⟩ : ∃ y_ : List Int, y_ = (x5_1.take (x8_2 : Int).toNat) := ⟨_, rfl⟩
                          replace H : (if y310.length + y313.length < 17592186044416 then ((some (y310 ++ y313 : List Int)).bind fun y317 => (if y317.length < 17592186044416 then ((some (y317 ++ [(rd l1 x6_1)] : List Int)).bind fun y320 => ((some (x5_1.drop (x8_2 : Int).toNat : List Int)).bind fun y323 => (if y320.length + y323.length < 17592186044416 then (unicodetextref06_Missing.l0 k2 l1 (y320 ++ y323) (wrap64 (x6_1 + 1)) l0_0) else (none)))) else (none))) else (none)) = some r := by first | (rw [hy313]; with_reducible exact H) | (have H2_ := (Option.bind_some _ _).symm.trans H; rw [hy313]; with_reducible exact H2_) | (have H2_ := (Option.bind_some _ _).symm.trans H; with_reducible exact H2_) | with_reducible exact H | (rw [hy313]; exact H) | exact H
                          have Ny313 := Aside0.mk hy313
                          clear hy313
                          by_cases c56 : y310.length + y313.length < 17592186044416
                          · rw [if_pos c56] at H
                            have LMc56 := Aside0.mk c56
                            clear c56
                            obtain ⟨y317, hy317⟩ : ∃ y_ : List Int, y_ = (y310 ++ y313) := ⟨_, rfl⟩
                            replace H : (if y317.length < 17592186044416 then ((some (y317 ++ [(rd l1 x6_1)] : List Int)).bind fun y320 => ((some (x5_1.drop (x8_2 : Int).toNat : List Int)).bind fun y323 => (if y320.length + y323.length < 17592186044416 then (unicodetextref06_Missing.l0 k2 l1 (y320 ++ y323) (wrap64 (x6_1 + 1)) l0_0) else (none)))) else (none)) = some r := by first | (rw [hy317]; with_reducible exact H) | (have H2_ := (Option.bind_some _ _).symm.trans H; rw [hy317]; with_reducible exact H2_) | (have H2_ := (Option.bind_some _ _).symm.trans H; with_reducible exact H2_) | with_reducible exact H | (rw [hy317]; exact H) | exact H
                            have Ny317 := Aside0.mk hy317
                            clear hy317
                            by_cases c57 : y317.length < 17592186044416
                            · rw [if_pos c57] at H
                              have LMc57 := Aside0.mk c57
                              clear c57
                              obtain ⟨y320, hy320⟩ : ∃ y_ : List Int, y_ = (y317 ++ [(rd l1 x6_1)]) := ⟨_, rfl⟩
                              replace H : ((some (x5_1.drop (x8_2 : Int).toNat : List Int)).bind fun y323 => (if y320.length + y323.length < 17592186044416 then (unicodetextref06_Missing.l0 k2 l1 (y320 ++ y323) (wrap64 (x6_1 + 1)) l0_0) else (none))) = some r := by first | (rw [hy320]; with_reducible exact H) | (have H2_ := (Option.bind_some _ _).symm.trans H; rw [hy320]; with_reducible exact H2_) | (have H2_ := (Option.bind_some _ _).symm.trans H; with_reducible exact H2_) | with_reducible exact H | (rw [hy320]; exact H) | exact H
                              have Ny320 := Aside0.mk hy320
                              clear hy320
                              have c58b0 := eq_true (of_decide_eq_true (by first | (with_reducible assumption) | assumption) : 0 ≤ x8_2)
                              have c59b0 := eq_true (of_decide_eq_true (by first | (with_reducible assumption) | assumption) : x8_2 ≤ (x5_1.length : Int))
                              obtain ⟨y323, hy323⟩ : ∃ y_ : List Int, y_ = (x5_1.drop (x8_2 : Int).toNat) := ⟨_, rfl⟩
                              replace H : (if y320.length + y323.length < 17592186044416 then (unicodetextref06_Missing.l0 k2 l1 (y320 ++ y323) (wrap64 (x6_1 + 1)) l0_0) else (none)) = some r := by first | (rw [hy323]; with_reducible exact H) | (have H2_ := (Option.bind_some _ _).symm.trans H; rw [hy323]; with_reducible exact H2_) | (have H2_ := (Option.bind_some _ _).symm.trans H; with_reducible exact H2_) | with_reducible exact H | (rw [hy323]; exact H) | exact H
                              have Ny323 := Aside0.mk hy323
                              clear hy323
                              by_cases c60 : y320.length + y323.length < 17592186044416
                              · rw [if_pos c60] at H
                                have LMc60 := Aside0.mk c60
                                clear c60
                                obtain ⟨y327, hy327⟩ : ∃ y_ : List Int, y_ = (y320 ++ y323) := ⟨_, rfl⟩
                                replace H : (unicodetextref06_Missing.l0 k2 l1 y327 (wrap64 (x6_1 + 1)) l0_0) = some r := by first | (rw [hy327]; with_reducible exact H) | (have H2_ := (Option.bind_some _ _).symm.trans H; rw [hy327]; with_reducible exact H2_) | (have H2_ := (Option.bind_some _ _).symm.trans H; with_reducible exact H2_) | with_reducible exact H | (rw [hy327]; exact H) | exact H
                                have Ny327 := Aside0.mk hy327
                                clear hy327
                                have H' := Aside0.mk H
                                clear H
                                obtain ⟨Ao61, co61, eo61⟩ := Kd.R_slice HO_5.out
                                subst eo61
                                go_wp2_with (first | ((with_reducible refine gate_dst (N := 53) rfl ?_); refine Kd.R_lit (Kd.int .i64) _ 3 ?hg (N := 53) ?hd (xs := ([] : List Int)) (inner := []) (ok := fun _ => True) (okp := fun _ => True) ?hr ?hp (fun _ hk => hk) trivial (Below.refl _ _) (Nat.le_refl _) (by simp) ?_; (case hd => rfl); (case hg => rfl); (case hr => first | (go_simp; done) | (go_simp; rfl)); (case hp => exact (Reps.none _ _)); intro v311 w62 ho63 hb hg_ hnew_; clear hg_ hnew_; (first | rw [← Ny310.out] at ho63 | (simp only [Int.reduceToNat] at ho63; rw [← Ny310.out] at ho63)); have n0_ := Aside0.mk (Kd.R_elder' (by (with_reducible repeat (first | apply Kd.R_alloc | apply Kd.R_drewN | apply Kd.R_drew)); exact HO_5.out) (Kd.R_base ho63) hb); have n1_ := Aside0.mk (Kd.R_lower (Kd.R_new' ho63 (Kd.R_lt (by (with_reducible repeat (first | apply Kd.R_alloc | apply Kd.R_drewN | apply Kd.R_drew)); exact HO_5.out))) (below_size (by repeat (first | (with_reducible first | exact HB.out | apply below_alloc | apply pw_below_drewN | apply below_drew1 | refine below_set ?_ GE264.out) | exact HB.out)))); have n2_ := Aside0.mk (blk_below (g := gb264) (o := .cells #[.slice A0_0 l0_0.length c0_0] 24 (0, 0)) (by (with_reducible repeat (first | refine blk_drewN ?_ _ | refine blk_drew ?_ | refine blk_alloc ?_ _)); exact BK264.out) hb); have n3_ := Aside0.mk (below_step (by repeat (first | (with_reducible first | exact HB.out | apply below_alloc | apply pw_below_drewN | apply below_drew1 | refine below_set ?_ GE264.out) | exact HB.out)) hb); clear HO_5; clear BK264; clear HB; have HO_5 := n0_; have HO312 := n1_; have BK264 := n2_; have HB := n3_; clear n0_ n1_ n2_ n3_; clear hb ho63; have q64 : (x8_2 : Int) ≤ ((x5_1.length : Int) : Int) := of_decide_eq_true (by first | (with_reducible assumption) | assumption); obtain ⟨i064, hi064, _, hsz64, _⟩ := info_parts info3; have hroom64 : x5_1.length ≤ co61 := (Kd.R_reads' HO_5.out).2.1; have hC64 : Kd.C (Kd.int .i64) _ Ao61 x5_1.length x5_1 := (Kd.R_reads' HO_5.out).2.2; have hcut64 := cut_to (P := Tryd.prog) 22 3 .i64 Tryd.underlying22 hi064 Ao61 x5_1.length co61 x8_2 (of_decide_eq_true (by first | (with_reducible assumption) | assumption)) q64 hroom64; have hr64 := Kd.C_take (m := (x8_2 : Int).toNat) hC64 (by omega); have hy64 : y313.length = (x8_2 : Int).toNat := (by rw [Ny313.out, List.length_take]; omega); rw [← Ny313.out] at hr64; rw [← hy64] at hcut64; have HR316 := Aside0.mk hr64; have HC316 := Aside0.mk (show y313.length ≤ co61 from by omega); clear hr64 hC64 hroom64 hi064 hsz64; have KY64 := Aside0.mk hy64; clear hy64; have KL64 := Aside0.mk (show (x8_2 : Int).toNat ≤ x5_1.length from by omega); replace q64 := eq_true q64) | ((with_reducible refine gate_builtin (b := .append) (xs := #[.tmp 53, .tmp 56]) rfl ?_); at_builtin; refine Kd.R_append_rows (Kd.int .i64) (w0 := w) w.heap.size rfl (.tmp 53) (.tmp 56) 22 3 (.int .i64 0) 8 rfl Tryd.underlying22 info3 rfl (by decide) (by omega) v311 y310 y313 _ _ _ (fun k_ => some k_ ≠ (.slice Ao61 x5_1.length co61 : Value).ownBlock) (fun _ => False) rfl rfl ?aO ?aR (fun _ _ h => h) (fun _ h => h.elim) ?aF ?aB ?aS ?aL ?_; (case aR => repeat (first | exact (by repeat (first | (with_reducible exact HR316.out) | (with_reducible refine Kd.C_alloc ?_ _) | (with_reducible refine Kd.C_drewN ?_ _) | (with_reducible refine Kd.C_drew ?_) | exact HR316.out)) | (with_reducible refine Kd.C_alloc ?_ _) | (with_reducible refine Kd.C_drewN ?_ _) | (with_reducible refine Kd.C_drew ?_))); (case aB => exact (by repeat (first | (with_reducible first | exact HB.out | apply below_alloc | apply pw_below_drewN | apply below_drew1 | refine below_set ?_ GE264.out) | exact HB.out))); (case aF => exact (fun k_ hk => Kd.fresh' (Kd.R_lt (by (with_reducible repeat (first | apply Kd.R_alloc | apply Kd.R_drewN | apply Kd.R_drew)); exact HO_5.out)) k_ hk)); (case aO => exact (by (with_reducible repeat (first | apply Kd.R_alloc | apply Kd.R_drewN | apply Kd.R_drew)); exact Kd.R_mono HO312.out (fun _ hk => hk.2))); (case aS => exact (below_size (by repeat (first | (with_reducible first | exact HB.out | apply below_alloc | apply pw_below_drewN | apply below_drew1 | refine below_set ?_ GE264.out) | exact HB.out)))); (case aL => have := LMc56.out; omega); intro v318 w65 ho hb hg hat; rw [← Ny317.out] at ho; have n0_ := Aside0.mk (Kd.R_after (ok := (fun _ => True)) (by (with_reducible repeat (first | apply Kd.R_alloc | apply Kd.R_drewN | apply Kd.R_drew)); exact HO_5.out) hg hat); have n1_ := Aside0.mk (blk_grown (g := gb264) (o := .cells #[.slice A0_0 l0_0.length c0_0] 24 (0, 0)) (by (with_reducible repeat (first | refine blk_drewN ?_ _ | refine blk_drew ?_ | refine blk_alloc ?_ _)); exact BK264.out) hg (Kd.R_ne HO312.out BK264.out (by decide))); have n2_ := Aside0.mk (hb); have n3_ := Aside0.mk ((show Kd.C (Kd.int .i64) w65 Ao61 y313.length y313 from by rw [Ny313.out]; exact Kd.C_take (m := (x8_2 : Int).toNat) ((Kd.R_reads' (Kd.R_after (ok := (fun _ => True)) (by (with_reducible repeat (first | apply Kd.R_alloc | apply Kd.R_drewN | apply Kd.R_drew)); exact HO_5.out) hg hat)).2.2) KL64.out)); have n4_ := Aside0.mk (ho); clear HO_5; clear BK264; clear HB; clear HR316; clear HO312; have HO_5 := n0_; have BK264 := n1_; have HB := n2_; have HR316 := n3_; have HO319 := n4_; clear n0_ n1_ n2_ n3_ n4_; clear ho hb hg hat) | ((with_reducible refine gate_builtin (b := .append) (xs := #[.tmp 58, .tmp 60]) rfl ?_); at_builtin; refine Kd.R_append (Kd.int .i64) (w0 := w) w.heap.size rfl (.tmp 58) (.tmp 60) 22 3 (.int .i64 0) 8 rfl Tryd.underlying22 info3 rfl (by decide) (by omega) v318 y317 (rd l1 x6_1) [.int .i64 (rd l1 x6_1)] (fun k_ => some k_ ≠ (.slice Ao61 x5_1.length co61 : Value).ownBlock) (fun _ => False) rfl rfl ?aP (fun _ hk => hk.elim) ?aF ?aO ?aB ?aS ?aL ?_; (case aP => exact rfl); (case aB => exact (by repeat (first | (with_reducible first | exact HB.out | apply below_alloc | apply pw_below_drewN | apply below_drew1 | refine below_set ?_ GE264.out) | exact HB.out))); (case aF => exact (fun k_ hk => Kd.fresh' (Kd.R_lt (by (with_reducible repeat (first | apply Kd.R_alloc | apply Kd.R_drewN | apply Kd.R_drew)); exact HO_5.out)) k_ hk)); (case aO => exact (by (with_reducible repeat (first | apply Kd.R_alloc | apply Kd.R_drewN | apply Kd.R_drew)); exact HO319.out)); (case aS => exact (below_size (by repeat (first | (with_reducible first | exact HB.out | apply below_alloc | apply pw_below_drewN | apply below_drew1 | refine below_set ?_ GE264.out) | exact HB.out)))); (case aL => have := LMc57.out; omega); intro v321 w66 ho hb hg hat; rw [← Ny320.out] at ho; have n0_ := Aside0.mk (Kd.R_after (ok := (fun _ => True)) (by (with_reducible repeat (first | apply Kd.R_alloc | apply Kd.R_drewN | apply Kd.R_drew)); exact HO_5.out) hg hat); have n1_ := Aside0.mk (blk_grown (g := gb264) (o := .cells #[.slice A0_0 l0_0.length c0_0] 24 (0, 0)) (by (with_reducible repeat (first | refine blk_drewN ?_ _ | refine blk_drew ?_ | refine blk_alloc ?_ _)); exact BK264.out) hg (Kd.R_ne HO319.out BK264.out (by decide))); have n2_ := Aside0.mk (hb); have n3_ := Aside0.mk ((show Kd.C (Kd.int .i64) w66 Ao61 y313.length y313 from by rw [Ny313.out]; exact Kd.C_take (m := (x8_2 : Int).toNat) ((Kd.R_reads' (Kd.R_after (ok := (fun _ => True)) (by (with_reducible repeat (first | apply Kd.R_alloc | apply Kd.R_drewN | apply Kd.R_drew)); exact HO_5.out) hg hat)).2.2) KL64.out)); have n4_ := Aside0.mk (ho); clear HO_5; clear BK264; clear HB; clear HR316; clear HO319; have HO_5 := n0_; have BK264 := n1_; have HB := n2_; have HR316 := n3_; have HO322 := n4_; clear n0_ n1_ n2_ n3_ n4_; clear ho hb hg hat; have q67 : (x8_2 : Int) ≤ ((x5_1.length : Int) : Int) := of_decide_eq_true (by first | (with_reducible assumption) | assumption); obtain ⟨i067, hi067, _, hsz67, _⟩ := info_parts info3; have hroom67 : x5_1.length ≤ co61 := (Kd.R_reads' HO_5.out).2.1; have hC67 : Kd.C (Kd.int .i64) _ Ao61 x5_1.length x5_1 := (Kd.R_reads' HO_5.out).2.2; have q067 : (0 : Int) ≤ (x8_2 : Int) := of_decide_eq_true (by first | (with_reducible assumption) | assumption); have hcut67 := cut_from (P := Tryd.prog) 22 3 .i64 Tryd.underlying22 hi067 1 hsz67 Ao61 x5_1.length co61 x8_2 q067 q67; have hr67 := Kd.C_drop (m := (x8_2 : Int).toNat) (c := co61) hC67 (by omega) hroom67; obtain ⟨A67, hA67⟩ : ∃ A1, A1 = (if co61 = (x8_2 : Int).toNat then Ao61 else (Ao61 : Option Addr).map (·.add ((x8_2 : Int).toNat * 1))) := ⟨_, rfl⟩; obtain ⟨c67, hc67⟩ : ∃ c1, c1 = co61 - (x8_2 : Int).toNat := ⟨_, rfl⟩; have hy67 : y323.length = x5_1.length - (x8_2 : Int).toNat := (by rw [Ny323.out, List.length_drop] <;> omega); rw [show (x5_1).drop (x8_2 : Int).toNat = y323 from Ny323.out.symm] at hr67; replace hr67 : Kd.C (Kd.int .i64) _ A67 y323.length y323 := (by rw [hA67]; exact hr67); rw [← hy67, ← hA67, ← hc67] at hcut67; have HR326 := Aside0.mk hr67; have HC326 := Aside0.mk (show y323.length ≤ c67 from by rw [hy67, hc67]; exact Nat.sub_le_sub_right hroom67 _); clear hr67 hC67 hroom67 hi067 hsz67 hc67; have KY67 := Aside0.mk hy67; have KA67 := Aside0.mk hA67; clear hy67 hA67; have KL67 := Aside0.mk (show (x8_2 : Int).toNat ≤ x5_1.length from by omega); replace q67 := eq_true q67) | ((with_reducible refine gate_builtin (b := .append) (xs := #[.tmp 62, .tmp 65]) rfl ?_); at_builtin; refine Kd.R_append_rows (Kd.int .i64) (w0 := w) w.heap.size rfl (.tmp 62) (.tmp 65) 22 3 (.int .i64 0) 8 rfl Tryd.underlying22 info3 rfl (by decide) (by omega) v321 y320 y323 _ _ _ (fun k_ => some k_ ≠ (.slice Ao61 x5_1.length co61 : Value).ownBlock) (fun _ => False) rfl rfl ?aO ?aR (fun _ _ h => h) (fun _ h => h.elim) ?aF ?aB ?aS ?aL ?_; (case aR => repeat (first | exact (by repeat (first | (with_reducible exact HR326.out) | (with_reducible refine Kd.C_alloc ?_ _) | (with_reducible refine Kd.C_drewN ?_ _) | (with_reducible refine Kd.C_drew ?_) | exact HR326.out)) | (with_reducible refine Kd.C_alloc ?_ _) | (with_reducible refine Kd.C_drewN ?_ _) | (with_reducible refine Kd.C_drew ?_))); (case aB => exact (by repeat (first | (with_reducible first | exact HB.out | apply below_alloc | apply pw_below_drewN | apply below_drew1 | refine below_set ?_ GE264.out) | exact HB.out))); (case aF => exact (fun k_ hk => Kd.fresh' (Kd.R_lt (by (with_reducible repeat (first | apply Kd.R_alloc | apply Kd.R_drewN | apply Kd.R_drew)); exact HO_5.out)) k_ hk)); (case aO => exact (by (with_reducible repeat (first | apply Kd.R_alloc | apply Kd.R_drewN | apply Kd.R_drew)); exact HO322.out)); (case aS => exact (below_size (by repeat (first | (with_reducible first | exact HB.out | apply below_alloc | apply pw_below_drewN | apply below_drew1 | refine below_set ?_ GE264.out) | exact HB.out)))); (case aL => have := LMc60.out; omega); intro v328 w68 ho hb hg hat; rw [← Ny327.out] at ho; have n0_ := Aside0.mk (Kd.R_after (ok := (fun _ => True)) (by (with_reducible repeat (first | apply Kd.R_alloc | apply Kd.R_drewN | apply Kd.R_drew)); exact HO_5.out) hg hat); have n1_ := Aside0.mk (blk_grown (g := gb264) (o := .cells #[.slice A0_0 l0_0.length c0_0] 24 (0, 0)) (by (with_reducible repeat (first | refine blk_drewN ?_ _ | refine blk_drew ?_ | refine blk_alloc ?_ _)); exact BK264.out) hg (Kd.R_ne HO322.out BK264.out (by decide))); have n2_ := Aside0.mk (hb); have n3_ := Aside0.mk ((show Kd.C (Kd.int .i64) w68 Ao61 y313.length y313 from by rw [Ny313.out]; exact Kd.C_take (m := (x8_2 : Int).toNat) ((Kd.R_reads' (Kd.R_after (ok := (fun _ => True)) (by (with_reducible repeat (first | apply Kd.R_alloc | apply Kd.R_drewN | apply Kd.R_drew)); exact HO_5.out) hg hat)).2.2) KL64.out)); have n4_ := Aside0.mk ((show Kd.C (Kd.int .i64) w68 A67 y323.length y323 from by rw [Ny323.out, KA67.out]; exact Kd.C_drop (m := (x8_2 : Int).toNat) (c := co61) ((Kd.R_reads' (Kd.R_after (ok := (fun _ => True)) (by (with_reducible repeat (first | apply Kd.R_alloc | apply Kd.R_drewN | apply Kd.R_drew)); exact HO_5.out) hg hat)).2.2) KL67.out ((Kd.R_reads' (Kd.R_after (ok := (fun _ => True)) (by (with_reducible repeat (first | apply Kd.R_alloc | apply Kd.R_drewN | apply Kd.R_drew)); exact HO_5.out) hg hat)).2.1))); have n5_ := Aside0.mk (ho); clear HO_5; clear BK264; clear HB; clear HR316; clear HR326; clear HO322; have HO_5 := n0_; have BK264 := n1_; have HB := n2_; have HR316 := n3_; have HR326 := n4_; have HO329 := n5_; clear n0_ n1_ n2_ n3_ n4_ n5_; clear ho hb hg hat))
                                go_roundg k2
                                case measure => have := HK1.out; have := HK2.out; omega
                                case rel => exact ⟨(y327), (wrap64 (x6_1 + 1)), (by first | rfl | (simp; done) | (simp [*]; done)), H', ⟨by have := HK1.out; have := HK2.out; omega⟩, ⟨by (with_reducible repeat (first | apply Kd.R_alloc | apply Kd.R_drewN | apply Kd.R_drew)); exact Kd.R_mono HO329.out (fun _ hk => trivial)⟩, ⟨by (with_reducible repeat (first | refine blk_drewN ?_ _ | refine blk_drew ?_ | refine blk_alloc ?_ _)); exact BK264.out⟩, ⟨by repeat (first | (with_reducible first | exact HB.out | apply below_alloc | apply pw_below_drewN | apply below_drew1 | refine below_set ?_ GE264.out) | exact HB.out)⟩⟩
                              · rw [if_neg c60] at H
                                exact absurd H (by simp)
                            · rw [if_neg c57] at H
                              exact absurd H (by simp)
                          · rw [if_neg c56] at H
                            exact absurd H (by simp)
                        · rw [if_neg c55] at H
                          exact absurd H (by simp)
                      · rw [if_neg c54] at H
                        exact absurd H (by simp)
                    · rw [if_neg c53] at H
                      have c53b0 : (x8_2 == (x5_1.length : Int)) = false := beq_eq_false_iff_ne.mpr c53
                      have c53b1 : (x8_2 != (x5_1.length : Int)) = true := bne_iff_ne.mpr c53
                      by_cases c69 : 0 ≤ x8_2
                      · rw [if_pos c69] at H
                        exact absurd H (by simp)
                      · rw [if_neg c69] at H
                        exact absurd H (by simp)
          · rw [if_neg c9] at H
            exact absurd H (by simp)
        · rw [if_neg c8] at H
          have c8b0 : decide (x6_1 < (l1.length : Int)) = false := decide_eq_false c8
          clear c8
          obtain rfl := Option.some.inj H
          go_wp2
          go_ret
          exact ⟨_, by first | rfl | (simp [errW_none, errW_some] <;> rfl) | (simp [*, errW_none, errW_some] <;> rfl), by (with_reducible repeat (first | apply Kd.R_alloc | apply Kd.R_drewN | apply Kd.R_drew)); exact HO_5.out, by repeat (first | (with_reducible first | exact HB.out | apply below_alloc | apply pw_below_drewN | apply below_drew1 | refine below_set ?_ GE264.out) | exact HB.out)⟩
  · rw [if_neg c4] at H
    have c4b0 : (t265 == 0) = false := beq_eq_false_iff_ne.mpr c4
    have c4b1 : (t265 != 0) = true := bne_iff_ne.mpr c4
    obtain rfl := Option.some.inj H
    go_enter Tryd.func8, Tryd.ntmps8
    go_wp2_with (first | ((with_reducible refine gate_dst (N := 2) rfl ?_); refine box_event ?hg (N := 2) ?hd (cs := #[.slice A0_0 l0_0.length c0_0]) (t := 24) ?hr ?_; (case hd => rfl); (case hg => rfl); (case hr => first | (go_simp; done) | (go_simp; rfl)); intro gb264 hg w70 hbox hb; have n0_ := Aside0.mk (below_step (by repeat (first | (with_reducible first | exact HB.out | apply below_alloc | apply pw_below_drewN | apply below_drew1) | exact HB.out)) hb); have n1_ := Aside0.mk (hbox); have n2_ := Aside0.mk ((by rw [hg]; exact (below_size (by repeat (first | (with_reducible first | exact HB.out | apply below_alloc | apply pw_below_drewN | apply below_drew1) | exact HB.out))) : w.heap.size ≤ gb264)); have n3_ := Aside0.mk ((by rw [hg]; exact (below_size (by repeat (first | (with_reducible first | exact HB.out | apply below_alloc | apply pw_below_drewN | apply below_drew1) | exact HB.out))) : w.heap.size ≤ gb264)); clear HB; have HB := n0_; have BK264 := n1_; have GW264 := n2_; have GE264 := n3_; clear n0_ n1_ n2_ n3_; clear hb hbox hg; have hcz71_0 : w70.cell? ⟨gb264, 0, none⟩ = some (.slice A0_0 l0_0.length c0_0) := (blk_cell BK264.out 0).trans rfl; have hfz71_0 := blk_frozen BK264.out 0) | ((with_reducible refine gate_callee (f := 10) rfl ?_); refine goesL_ (some 11) rfl rfl Tryd.func10 (by kernel_rfl) rfl #[.agg #[.slice A0_0 l0_0.length c0_0]] rfl (by (try simp only [List.map_toArray, List.map_cons, List.map_nil]); first | done | rfl | (simp only [List.length_drop, List.length_take]; rfl)) ?_; (with_reducible refine (unicodetextref06_Check.calls k _ _ l0_0 t265 _ ?side1 ?side2 A3.out).mono ?_); (case side1 => repeat (first | exact (Kd.C_below HR0_0.out HB.out) | (with_reducible refine Kd.C_alloc ?_ _) | (with_reducible refine Kd.C_drewN ?_ _) | (with_reducible refine Kd.C_drew ?_))); (case side2 => exact HC0_0.out); rintro e w72 ⟨rfl, hb⟩; refine ⟨_, rfl, ?_⟩; have n0_ := Aside0.mk (blk_below (g := gb264) (o := .cells #[.slice A0_0 l0_0.length c0_0] 24 (0, 0)) (by (with_reducible repeat (first | refine blk_drewN ?_ _ | refine blk_drew ?_ | refine blk_alloc ?_ _)); exact BK264.out) hb); have n1_ := Aside0.mk (below_step (by repeat (first | (with_reducible first | exact HB.out | apply below_alloc | apply pw_below_drewN | apply below_drew1 | refine below_set ?_ GE264.out) | exact HB.out)) hb); clear BK264; clear HB; have BK264 := n0_; have HB := n1_; clear n0_ n1_; (try clear hb); (try clear hb2); (try clear hk); (try clear hi)))
    go_ret
    exact ⟨_, by first | rfl | (simp [errW_none, errW_some] <;> rfl) | (simp [*, errW_none, errW_some] <;> rfl), by first | exact Kd.R_nil _ _ _ _ _ | exact Kd.N_nil _ _ _ _ _ | exact Kd.V_nil _ _ _ _ _ | exact Kd.Q_nil _ _ _ _ _ | exact Kd.S_nil _ _ _ _ _, by repeat (first | (with_reducible first | exact HB.out | apply below_alloc | apply pw_below_drewN | apply below_drew1 | refine below_set ?_ GE264.out) | exact HB.out)⟩

end Go.Proofs.YthnkkohhohkbkaaDoor.MP

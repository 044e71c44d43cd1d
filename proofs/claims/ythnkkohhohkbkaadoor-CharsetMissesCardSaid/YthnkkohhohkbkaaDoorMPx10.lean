-- Laid by hprint.py (this session's program, over the kit's print) for the seat YthnkkohhohkbkaaDoor. Lean checks it.
import Derived.Test.YthnkkohhohkbkaaDoorMPx0
import Derived.Test.YthnkkohhohkbkaaDoorMPx2
import Derived.Test.YthnkkohhohkbkaaDoorMPx4
import Derived.Test.YthnkkohhohkbkaaDoorMPx5
import Derived.Test.YthnkkohhohkbkaaDoorMPx6
import Derived.Test.YthnkkohhohkbkaaDoorMPx7
import Derived.Test.YthnkkohhohkbkaaDoorMPx8
import Derived.Test.YthnkkohhohkbkaaDoorMPx9
namespace Go.Proofs.YthnkkohhohkbkaaDoor.MP
open Go.RowKit Go.Proofs.YthnkkohhohkbkaaDoorW.PrintWords Go.Proofs.YthnkkohhohkbkaaDoorW.PrintLast Go.Proofs.YthnkkohhohkbkaaDoorW.PrintMore
attribute [local go_sem] max2_int min2_int max_two min_two max_three min_three max_four min_four   -- for this text's walks alone
set_option linter.unusedVariables false
set_option linter.unusedSimpArgs false

/-! ### unicodetextlaw06_CharsetMisses: function 3 -/
set_option maxHeartbeats 6400000 in
set_option maxRecDepth 100000 in
theorem misses_walk (A0_0 : Option Addr) (c0_0 : Nat) (l0_0 : List Int) (A1 : Option Addr) (c1 : Nat) (l1 : List Int) (w : World) (hr0_0 : Kd.C (Kd.int .i64) w A0_0 l0_0.length l0_0) (hc0_0 : l0_0.length ≤ c0_0) (hr1 : Kd.C (Kd.int .i64) w A1 l1.length l1) (hc1 : l1.length ≤ c1)
    (M : List Int) (r1 : ByteArray) (r2 r3 q : Int) (h300 : l0_0.length ≤ 300) (h40 : l1.length ≤ 40)
    (hM : charset_Missing.f l0_0 l1 = some M) (hN : unicodetextref06_Missing.f 50000 l0_0 l1 = some M) (hE : charset_Encode.f l0_0 l1 1 = some (r1, r2, r3)) (hC : unicodetextref06_Check.f 50000 l0_0 = some q) (hQ : unicodetextref01_Equal.f 50000 M M = some true) (hA : unicodetextlaw06_alive.f = some true)
    (hcase : (r2 = 11 ∧ ¬ q = 0 ∧ M.length = 0) ∨ (r2 = 10 ∧ q = 0 ∧ 0 < M.length) ∨ (r2 = 0 ∧ q = 0 ∧ M.length = 0)) :
    Calls Tryd.prog 3 #[.agg #[.slice A0_0 l0_0.length c0_0], .slice A1 l1.length c1] w fun e w' => e = .returned (.bool true) ∧ Below w.heap.size w w' := by
  have R0 := Aside0.mk hr0_0
  have R1 := Aside0.mk hr1
  have HM := Aside0.mk hM
  have HN := Aside0.mk hN
  have HE := Aside0.mk hE
  have HC := Aside0.mk hC
  have HQ := Aside0.mk hQ
  have HA := Aside0.mk hA
  have HF : Aside0 (unicodetextlaw06_few.f l0_0 = some true) := ⟨by unfold unicodetextlaw06_few.f; rw [decide_eq_true (by omega)]⟩
  have HCS := Aside0.mk hcase
  have h40z : ¬ (40 : Int) < (l1.length : Int) := by omega
  clear hr0_0 hr1 hM hN hE hC hQ hA hcase h300 h40
  go_enter Tryd.func3, Tryd.ntmps3
  go_wp2_with fail
  refine (unicodetextlaw06_few.calls _ _ _ _ _ (Kd.C_below R0.out (below_alloc (Below.refl _ _) _)) hc0_0 HF.out).mono ?_
  rintro e w1 ⟨rfl, hb1⟩
  have hbk1 := blk_below (blk_new w (.cells #[.slice A0_0 l0_0.length c0_0] 24)) hb1
  have HB1 : Aside0 (Below w.heap.size w w1) := ⟨(below_alloc (Below.refl _ _) _).trans (hb1.mono (by simp))⟩
  have hbx1 : w1.cell? ⟨w.heap.size, 0, none⟩ = some (.slice A0_0 l0_0.length c0_0) := blk_cell hbk1 0
  have hs1 : w.heap.size < w1.heap.size := blk_lt hbk1
  clear hb1
  go_wp2_with fail
  refine (charset_Missing.calls _ _ _ _ _ _ _ _ (Kd.C_below R0.out HB1.out) hc0_0 (Kd.C_below R1.out HB1.out) hc1 HM.out).mono ?_
  rintro e w2 ⟨v2, rfl, hR2, hb2⟩
  obtain ⟨A2, c2, rfl⟩ := Kd.R_slice hR2
  have hbk2 := blk_below hbk1 hb2
  have HB2 : Aside0 (Below w.heap.size w w2) := ⟨HB1.out.trans (hb2.mono (by omega))⟩
  have hbx2 : w2.cell? ⟨w.heap.size, 0, none⟩ = some (.slice A0_0 l0_0.length c0_0) := blk_cell hbk2 0
  have hs2 := hb2.size
  have HR2 := Aside0.mk hR2
  clear hb2 hR2 hbx1 hbk1
  go_wp2_with fail
  refine (unicodetextref06_Missing.calls 50000 _ _ _ _ _ _ _ _ (Kd.C_below R0.out HB2.out) hc0_0 (Kd.C_below R1.out HB2.out) hc1 HN.out).mono ?_
  rintro e w3 ⟨v3, rfl, hR3, hb3⟩
  obtain ⟨A3, c3, rfl⟩ := Kd.R_slice hR3
  have hbk3 := blk_below hbk2 hb3
  have HB3 : Aside0 (Below w.heap.size w w3) := ⟨HB2.out.trans (hb3.mono (by omega))⟩
  have hbx3 : w3.cell? ⟨w.heap.size, 0, none⟩ = some (.slice A0_0 l0_0.length c0_0) := blk_cell hbk3 0
  have hs3 := hb3.size
  have HR23 := Aside0.mk (Kd.R_below HR2.out hb3)
  have HR3 := Aside0.mk hR3
  clear hb3 hR3 hbx2 hbk2 HR2
  go_wp2_with fail
  refine (unicodetextref01_Equal.calls 50000 _ _ _ _ _ _ _ _ (Kd.R_reads' HR23.out).2.2 (Kd.R_reads' HR23.out).2.1 (Kd.R_reads' HR3.out).2.2 (Kd.R_reads' HR3.out).2.1 HQ.out).mono ?_
  rintro e w4 ⟨rfl, hd4⟩
  have hb4 := hd4.below
  have hbk4 := blk_below hbk3 hb4
  have HB4 : Aside0 (Below w.heap.size w w4) := ⟨HB3.out.trans (hb4.mono (by omega))⟩
  have hbx4 : w4.cell? ⟨w.heap.size, 0, none⟩ = some (.slice A0_0 l0_0.length c0_0) := blk_cell hbk4 0
  have hs4 := hb4.size
  clear hb4 hd4 hbx3 hbk3 HR23 HR3
  go_wp2_with fail
  refine (charset_Encode.calls _ _ _ _ _ _ _ _ _ _ _ (Kd.C_below R0.out HB4.out) hc0_0 (Kd.C_below R1.out HB4.out) hc1 HE.out).mono ?_
  rintro e w5 ⟨rfl, hb5⟩
  have hbk5 := blk_below hbk4 hb5
  have HB5 : Aside0 (Below w.heap.size w w5) := ⟨HB4.out.trans (hb5.mono (by omega))⟩
  have hs5 := hb5.size
  clear hb5 hbx4 hbk4
  go_wp2_with fail
  have HBW : Aside0 (Below w.heap.size w (w5.alloc (.cells #[.int .i64 r2, .int .i64 r3] 31))) := ⟨below_alloc HB5.out _⟩
  have hw0 := blk_cell (blk_alloc hbk5 (.cells #[.int .i64 r2, .int .i64 r3] 31)) 0
  have hw1 := blk_cell (blk_new w5 (.cells #[.int .i64 r2, .int .i64 r3] 31)) 0
  have hwk : w.heap.size < (w5.alloc (.cells #[.int .i64 r2, .int .i64 r3] 31)).heap.size := by simp; omega
  generalize hWe : w5.alloc (.cells #[.int .i64 r2, .int .i64 r3] 31) = W at HBW hw0 hw1 hwk ⊢
  have g0 : W.cell? ⟨w.heap.size, 0, none⟩ = some (.slice A0_0 l0_0.length c0_0) := hw0
  have g1 : W.cell? ⟨w5.heap.size, 0, none⟩ = some (.int .i64 r2) := hw1
  clear hw0 hw1 hWe hbk5
  rcases HCS.out with ⟨e1, e2, e3⟩ | ⟨e1, e2, e3⟩ | ⟨e1, e2, e3⟩
  all_goals subst e1
  · have hq : (q == 0) = false := beq_eq_false_iff_ne.2 e2
    have hq2 : (q != 0) = true := bne_iff_ne.2 e2
    rw [e3]
    go_region_held3 (fun w' => w'.cell? ⟨w.heap.size, 0, none⟩ = some (.slice A0_0 l0_0.length c0_0) ∧ w'.cell? ⟨w5.heap.size, 0, none⟩ = some (.int .i64 11))
      (first
        | go_keep
        | (go_split_ands; exact ⟨pw_cell_below hb (by assumption), pw_cell_below hb (by assumption)⟩))
      (first
        | (go_at_call 10; refine (unicodetextref06_Check.calls 50000 _ _ _ _ _ (by first | exact Kd.C_below R0.out HBW.out | exact Kd.C_drew (Kd.C_below R0.out HBW.out)) hc0_0 HC.out).mono ?_; rintro e w6 ⟨rfl, hb⟩; have hb6 := Aside0.mk (show Below W.heap.size W w6 from (below_drew (Below.refl W.heap.size W)).trans hb))
        | (go_at_call 5; refine (unicodetextlaw06_alive.calls _ _ HA.out).mono ?_; rintro e w7 ⟨rfl, hb⟩; have hb7 := Aside0.mk hb))
    all_goals (go_wp2; go_ret; exact ⟨rfl, (HBW.out.trans (hb6.out.mono (by omega))).trans (hb7.out.mono (by have := hb6.out.size; omega))⟩)
  · subst e2
    have hpos : (0 : Int) < (M.length : Int) := by omega
    have hpos2 : decide ((0 : Int) < (M.length : Int)) = true := decide_eq_true hpos
    go_region_held3 (fun w' => w'.cell? ⟨w.heap.size, 0, none⟩ = some (.slice A0_0 l0_0.length c0_0) ∧ w'.cell? ⟨w5.heap.size, 0, none⟩ = some (.int .i64 10))
      (first
        | go_keep
        | (go_split_ands; exact ⟨pw_cell_below hb (by assumption), pw_cell_below hb (by assumption)⟩))
      (first
        | (go_at_call 10; refine (unicodetextref06_Check.calls 50000 _ _ _ _ _ (by first | exact Kd.C_below R0.out HBW.out | exact Kd.C_drew (Kd.C_below R0.out HBW.out)) hc0_0 HC.out).mono ?_; rintro e w6 ⟨rfl, hb⟩; have hb6 := Aside0.mk (show Below W.heap.size W w6 from (below_drew (Below.refl W.heap.size W)).trans hb))
        | (go_at_call 5; refine (unicodetextlaw06_alive.calls _ _ HA.out).mono ?_; rintro e w7 ⟨rfl, hb⟩; have hb7 := Aside0.mk hb))
    all_goals (go_wp2; go_ret; exact ⟨rfl, (HBW.out.trans (hb6.out.mono (by omega))).trans (hb7.out.mono (by have := hb6.out.size; omega))⟩)
  · subst e2
    rw [e3]
    go_region_held3 (fun w' => w'.cell? ⟨w.heap.size, 0, none⟩ = some (.slice A0_0 l0_0.length c0_0) ∧ w'.cell? ⟨w5.heap.size, 0, none⟩ = some (.int .i64 0))
      (first
        | go_keep
        | (go_split_ands; exact ⟨pw_cell_below hb (by assumption), pw_cell_below hb (by assumption)⟩))
      (first
        | (go_at_call 10; refine (unicodetextref06_Check.calls 50000 _ _ _ _ _ (by first | exact Kd.C_below R0.out HBW.out | exact Kd.C_drew (Kd.C_below R0.out HBW.out)) hc0_0 HC.out).mono ?_; rintro e w6 ⟨rfl, hb⟩; have hb6 := Aside0.mk (show Below W.heap.size W w6 from (below_drew (Below.refl W.heap.size W)).trans hb))
        | (go_at_call 5; refine (unicodetextlaw06_alive.calls _ _ HA.out).mono ?_; rintro e w7 ⟨rfl, hb⟩; have hb7 := Aside0.mk hb))
    all_goals (go_wp2; go_ret; exact ⟨rfl, (HBW.out.trans (hb6.out.mono (by omega))).trans (hb7.out.mono (by have := hb6.out.size; omega))⟩)
def unicodetextlaw06_CharsetMisses.f (k : Nat) (l0_0 : List Int) (l1 : List Int) : Option Bool := if intsB l0_0 = true ∧ intsB l1 = true then some true else none
set_option maxHeartbeats 3200000 in
set_option maxRecDepth 100000 in
theorem misses_alive (A0_0 : Option Addr) (c0_0 : Nat) (l0_0 : List Int) (A1 : Option Addr) (c1 : Nat) (l1 : List Int) (w : World) (hr0_0 : Kd.C (Kd.int .i64) w A0_0 l0_0.length l0_0) (hc0_0 : l0_0.length ≤ c0_0)
    (hA : unicodetextlaw06_alive.f = some true) (hbig : ¬ (l0_0.length ≤ 300 ∧ l1.length ≤ 40)) :
    Calls Tryd.prog 3 #[.agg #[.slice A0_0 l0_0.length c0_0], .slice A1 l1.length c1] w fun e w' => e = .returned (.bool true) ∧ Below w.heap.size w w' := by
  have R0 := Aside0.mk hr0_0
  have HA := Aside0.mk hA
  clear hr0_0 hA
  by_cases h300 : l0_0.length ≤ 300
  · have h40z : (40 : Int) < (l1.length : Int) := by omega
    have HF : Aside0 (unicodetextlaw06_few.f l0_0 = some true) := ⟨by unfold unicodetextlaw06_few.f; rw [decide_eq_true (by omega)]⟩
    clear h300 hbig
    go_enter Tryd.func3, Tryd.ntmps3
    go_wp2_with fail
    refine (unicodetextlaw06_few.calls _ _ _ _ _ (Kd.C_below R0.out (below_alloc (Below.refl _ _) _)) hc0_0 HF.out).mono ?_
    rintro e w1 ⟨rfl, hb1⟩
    go_wp2_with fail
    refine (unicodetextlaw06_alive.calls _ _ HA.out).mono ?_
    rintro e w2 ⟨rfl, hb2⟩
    go_wp2
    go_ret
    exact ⟨rfl, ((below_alloc (Below.refl _ _) _).trans (hb1.mono (by simp))).trans (hb2.mono (by have := hb1.size; simp at this; omega))⟩
  · have HF : Aside0 (unicodetextlaw06_few.f l0_0 = some false) := ⟨by unfold unicodetextlaw06_few.f; rw [decide_eq_false (by omega)]⟩
    clear h300 hbig
    go_enter Tryd.func3, Tryd.ntmps3
    go_wp2_with fail
    refine (unicodetextlaw06_few.calls _ _ _ _ _ (Kd.C_below R0.out (below_alloc (Below.refl _ _) _)) hc0_0 HF.out).mono ?_
    rintro e w1 ⟨rfl, hb1⟩
    go_wp2_with fail
    refine (unicodetextlaw06_alive.calls _ _ HA.out).mono ?_
    rintro e w2 ⟨rfl, hb2⟩
    go_wp2
    go_ret
    exact ⟨rfl, ((below_alloc (Below.refl _ _) _).trans (hb1.mono (by simp))).trans (hb2.mono (by have := hb1.size; simp at this; omega))⟩
theorem misses_pure (l t : List Int) (h1 : intsB l = true) (h2 : intsB t = true) (ht : t.length ≤ 40) : ∃ (M : List Int) (r1 : ByteArray) (r2 r3 q : Int), charset_Missing.f l t = some M ∧ unicodetextref06_Missing.f 50000 l t = some M ∧ charset_Encode.f l t 1 = some (r1, r2, r3) ∧ unicodetextref06_Check.f 50000 l = some q ∧ unicodetextref01_Equal.f 50000 M M = some true ∧ ((r2 = 11 ∧ ¬ q = 0 ∧ M.length = 0) ∨ (r2 = 10 ∧ q = 0 ∧ 0 < M.length) ∨ (r2 = 0 ∧ q = 0 ∧ M.length = 0)) := by
  have hp : intsB l = true ∧ intsB t = true ∧ t.length ≤ 1000 := ⟨h1, h2, by omega⟩
  have hM : charset_Missing.f l t = some (if checkB l = 0 then Lib.compact (sortL (missB l t)) else []) := by unfold charset_Missing.f; rw [if_pos hp]
  have hR := rmiss_f l t (by omega) 50000 (by omega)
  have hC := rcheck_f l 50000 (by omega)
  by_cases h : checkB l = 0
  · have hE : charset_Encode.f l t 1 = some (encG (byteOf l) 1 t 0 []) := by
      unfold charset_Encode.f; rw [if_pos hp, if_pos h, if_pos (by decide)]
    have hf := encG_fail (byteOf l) t 0 []
    have hmem := (compact_sort (missB l t)).2
    have hln : (Lib.compact (sortL (missB l t))).length ≤ 40 := by
      refine Nat.le_trans (Lib.compact_length_le _) ?_
      have e : (sortL (missB l t)).length = (missB l t).length := List.length_mergeSort ..
      have e2 : (missB l t).length ≤ t.length := List.length_filter_le ..
      omega
    rw [if_pos h] at hM hR
    rw [← miss_eq h t] at hR
    refine ⟨_, (encG (byteOf l) 1 t 0 []).1, (encG (byteOf l) 1 t 0 []).2.1, (encG (byteOf l) 1 t 0 []).2.2, _, hM, hR, hE, hC, equal_f _ (by omega) _ (by omega), .inr ?_⟩
    rw [hf]
    cases hany : (t.any fun x => (byteOf l x).isNone) with
    | true =>
      left
      obtain ⟨x, hx, hn⟩ := List.any_eq_true.1 hany
      have hin : x ∈ Lib.compact (sortL (missB l t)) := (hmem x).2 (List.mem_filter.2 ⟨hx, hn⟩)
      exact ⟨if_pos rfl, h, List.length_pos_of_mem hin⟩
    | false =>
      right
      refine ⟨if_neg Bool.false_ne_true, h, ?_⟩
      refine Nat.eq_zero_of_not_pos fun hpos => ?_
      obtain ⟨x, hx⟩ := List.exists_mem_of_length_pos hpos
      obtain ⟨h3, h4⟩ := List.mem_filter.1 ((hmem x).1 hx)
      exact List.any_eq_false.1 hany x h3 h4
  · have hE : charset_Encode.f l t 1 = some (⟨#[]⟩, 11, 0) := by
      unfold charset_Encode.f; rw [if_pos hp, if_neg h]
    rw [if_neg h] at hM hR
    exact ⟨_, _, _, _, _, hM, hR, hE, hC, equal_f [] (by decide) _ (by decide), .inl ⟨rfl, h, rfl⟩⟩
theorem unicodetextlaw06_CharsetMisses.calls (k : Nat) (A0_0 : Option Addr) (c0_0 : Nat) (l0_0 : List Int) (A1 : Option Addr) (c1 : Nat) (l1 : List Int) (r : Bool) (w : World) (hr0_0 : Kd.C (Kd.int .i64) w A0_0 l0_0.length l0_0) (hc0_0 : l0_0.length ≤ c0_0) (hr1 : Kd.C (Kd.int .i64) w A1 l1.length l1) (hc1 : l1.length ≤ c1) (h : unicodetextlaw06_CharsetMisses.f k l0_0 l1 = some r) :
    Calls Tryd.prog 3 #[.agg #[.slice A0_0 l0_0.length c0_0], .slice A1 l1.length c1] w fun e w' => e = .returned (.bool r) ∧ Below w.heap.size w w' := by
  unfold unicodetextlaw06_CharsetMisses.f at h
  by_cases hp : intsB l0_0 = true ∧ intsB l1 = true
  case neg => rw [if_neg hp] at h; cases h
  rw [if_pos hp] at h
  obtain rfl := Option.some.inj h
  by_cases hs : l0_0.length ≤ 300 ∧ l1.length ≤ 40
  · obtain ⟨M, r1, r2, r3, q, hM, hN, hE, hC, hQ, hc⟩ := misses_pure l0_0 l1 hp.1 hp.2 hs.2
    exact misses_walk A0_0 c0_0 l0_0 A1 c1 l1 w hr0_0 hc0_0 hr1 hc1 M r1 r2 r3 q hs.1 hs.2 hM hN hE hC hQ calive_f hc
  · exact misses_alive A0_0 c0_0 l0_0 A1 c1 l1 w hr0_0 hc0_0 calive_f hs
theorem charsetMisses_true (l t : List Int) (h1 : intsB l = true) (h2 : intsB t = true) : unicodetextlaw06_CharsetMisses.f 50000 l t = some true := by
  unfold unicodetextlaw06_CharsetMisses.f
  exact if_pos ⟨h1, h2⟩

end Go.Proofs.YthnkkohhohkbkaaDoor.MP

-- Laid by hprint.py (this session's program, over the kit's print) for the seat Ytneelkaelcilfaa. Lean checks it.
import Derived.Test.YtneelkaelcilfaaPAx0
import Derived.Test.YtneelkaelcilfaaPAx2
import Derived.Test.YtneelkaelcilfaaPAx5
import Derived.Test.YtneelkaelcilfaaPAx6
namespace Go.Proofs.Ytneelkaelcilfaa.PA
open Go.RowKit Go.Proofs.YtneelkaelcilfaaW.PrintWords Go.Proofs.YtneelkaelcilfaaW.PrintLast Go.Proofs.YtneelkaelcilfaaW.PrintMore
attribute [local go_sem] max2_int min2_int max_two min_two max_three min_three max_four min_four   -- for this text's walks alone
set_option linter.unusedVariables false
set_option linter.unusedSimpArgs false

/-! ### codepoint_Valid: function 82 -/
def codepoint_Valid.f (a0 : Int) : Option (Bool) := if a0 ≥ 0 then (some (decide (a0 ≤ 1114111))) else (some false)
set_option maxHeartbeats 8000000 in
set_option maxRecDepth 100000 in
theorem codepoint_Valid.calls (a0 : Int) (r : Bool) (w : World) (h : codepoint_Valid.f a0 = some r) :
    Calls Try.prog 82 #[.int .i64 a0] w fun e w' => e = .returned (.bool r) ∧ Drawn0 w w' := by
  have H : (if a0 ≥ 0 then (some (decide (a0 ≤ 1114111))) else (some false)) = some r := h
  clear h
  by_cases c2 : a0 ≥ 0
  · rw [if_pos c2] at H
    have c2b0 : decide (0 ≤ a0) = true := decide_eq_true c2
    clear c2
    obtain rfl := Option.some.inj H
    go_enter Try.func82, Try.ntmps82
    go_wp2
    go_ret
    exact ⟨by first | rfl | (simp; done) | (simp [*]; done), by repeat (first | exact Drawn0.refl _ | apply Drawn0.step)⟩
  · rw [if_neg c2] at H
    have c2b0 : decide (0 ≤ a0) = false := decide_eq_false c2
    clear c2
    obtain rfl := Option.some.inj H
    go_enter Try.func82, Try.ntmps82
    go_wp2
    go_ret
    exact ⟨by first | rfl | (simp; done) | (simp [*]; done), by repeat (first | exact Drawn0.refl _ | apply Drawn0.step)⟩

/-! ### property_inside: function 74 -/
def property_inside.f (a0_0 : Int) (a0_1 : Int) (a0_2 : Int) : Option (Bool) := (codepoint_Valid.f a0_0).bind fun t105 => (if t105 = true then ((codepoint_Valid.f a0_1).bind fun t106 => (if t106 = true then (some (decide (a0_0 ≤ a0_1))) else (some false))) else (some false))
set_option maxHeartbeats 8000000 in
set_option maxRecDepth 100000 in
theorem property_inside.calls (a0_0 : Int) (a0_1 : Int) (a0_2 : Int) (r : Bool) (w : World) (h : property_inside.f a0_0 a0_1 a0_2 = some r) :
    Calls Try.prog 74 #[.agg #[.int .i64 a0_0, .int .i64 a0_1, .int .i64 a0_2]] w fun e w' => e = .returned (.bool r) ∧ Below w.heap.size w w' := by
  have hu45 := Try.underlying45
  have HB := Aside0.mk (Below.refl w.heap.size w)
  have H : ((codepoint_Valid.f a0_0).bind fun t105 => (if t105 = true then ((codepoint_Valid.f a0_1).bind fun t106 => (if t106 = true then (some (decide (a0_0 ≤ a0_1))) else (some false))) else (some false))) = some r := h
  clear h
  replace H := Option.bind_eq_some_iff.mp H
  obtain ⟨t105, A20, H⟩ := H
  replace H : (if t105 = true then ((codepoint_Valid.f a0_1).bind fun t106 => (if t106 = true then (some (decide (a0_0 ≤ a0_1))) else (some false))) else (some false)) = some r := H
  have A2 := Aside0.mk A20
  clear A20
  by_cases c3 : t105 = true
  · subst c3
    have H1 : ((codepoint_Valid.f a0_1).bind fun t106 => (if t106 = true then (some (decide (a0_0 ≤ a0_1))) else (some false))) = some r := by rw [if_pos rfl] at H; exact H
    clear H
    have H := H1
    clear H1
    replace H := Option.bind_eq_some_iff.mp H
    obtain ⟨t106, A40, H⟩ := H
    replace H : (if t106 = true then (some (decide (a0_0 ≤ a0_1))) else (some false)) = some r := H
    have A4 := Aside0.mk A40
    clear A40
    by_cases c5 : t106 = true
    · subst c5
      have H1 : (some (decide (a0_0 ≤ a0_1))) = some r := by rw [if_pos rfl] at H; exact H
      clear H
      have H := H1
      clear H1
      obtain rfl := Option.some.inj H
      go_enter Try.func74, Try.ntmps74
      go_wp2_with (first | ((with_reducible refine gate_dst (N := 1) rfl ?_); refine box_event ?hg (N := 1) ?hd (cs := #[.int .i64 a0_0, .int .i64 a0_1, .int .i64 a0_2]) (t := 45) ?hr ?_; (case hd => rfl); (case hg => rfl); (case hr => first | (go_simp; done) | (go_simp; rfl)); intro gb104 hg w6 hbox hb; have n0_ := Aside0.mk (below_step (by repeat (first | (with_reducible first | exact HB.out | apply below_alloc | apply pw_below_drewN | apply below_drew1) | exact HB.out)) hb); have n1_ := Aside0.mk (hbox); have n2_ := Aside0.mk ((by rw [hg]; exact (below_size (by repeat (first | (with_reducible first | exact HB.out | apply below_alloc | apply pw_below_drewN | apply below_drew1) | exact HB.out))) : w.heap.size ≤ gb104)); have n3_ := Aside0.mk ((by rw [hg]; exact (below_size (by repeat (first | (with_reducible first | exact HB.out | apply below_alloc | apply pw_below_drewN | apply below_drew1) | exact HB.out))) : w.heap.size ≤ gb104)); clear HB; have HB := n0_; have BK104 := n1_; have GW104 := n2_; have GE104 := n3_; clear n0_ n1_ n2_ n3_; clear hb hbox hg; have hcz7_0 : w6.cell? ⟨gb104, 0, none⟩ = some (.int .i64 a0_0) := (blk_cell BK104.out 0).trans rfl; have hcz7_1 : w6.cell? ⟨gb104, 1, none⟩ = some (.int .i64 a0_1) := (blk_cell BK104.out 1).trans rfl; have hcz7_2 : w6.cell? ⟨gb104, 2, none⟩ = some (.int .i64 a0_2) := (blk_cell BK104.out 2).trans rfl; have hfz7_0 := blk_frozen BK104.out 0; have hfz7_1 := blk_frozen BK104.out 1; have hfz7_2 := blk_frozen BK104.out 2) | ((with_reducible refine gate_callee (f := 82) rfl ?_); refine goesL_ (some 5) rfl rfl Try.func82 (by kernel_rfl) rfl #[.int .i64 a0_0] rfl (by (try simp only [List.map_toArray, List.map_cons, List.map_nil]); first | done | rfl | (simp only [List.length_drop, List.length_take]; rfl)) ?_; (with_reducible refine (codepoint_Valid.calls a0_0 true _ A2.out).mono ?_); rintro e w' ⟨rfl, ⟨nd, rfl⟩⟩; refine ⟨_, rfl, ?_⟩) | (go_at_call 82; (with_reducible refine (codepoint_Valid.calls a0_1 true _ A4.out).mono ?_); rintro e w' ⟨rfl, ⟨nd, rfl⟩⟩))
      go_ret
      exact ⟨by first | rfl | (simp [errW_none, errW_some] <;> rfl) | (simp [*, errW_none, errW_some] <;> rfl), by repeat (first | (with_reducible first | exact HB.out | apply below_alloc | apply pw_below_drewN | apply below_drew1 | refine below_set ?_ GE104.out) | exact HB.out)⟩
    · replace c5 := Bool.eq_false_iff.mpr c5
      subst c5
      have H1 : (some false) = some r := by rw [if_neg (show ¬ (false = true) by decide)] at H; exact H
      clear H
      have H := H1
      clear H1
      obtain rfl := Option.some.inj H
      go_enter Try.func74, Try.ntmps74
      go_wp2_with (first | ((with_reducible refine gate_dst (N := 1) rfl ?_); refine box_event ?hg (N := 1) ?hd (cs := #[.int .i64 a0_0, .int .i64 a0_1, .int .i64 a0_2]) (t := 45) ?hr ?_; (case hd => rfl); (case hg => rfl); (case hr => first | (go_simp; done) | (go_simp; rfl)); intro gb104 hg w8 hbox hb; have n0_ := Aside0.mk (below_step (by repeat (first | (with_reducible first | exact HB.out | apply below_alloc | apply pw_below_drewN | apply below_drew1) | exact HB.out)) hb); have n1_ := Aside0.mk (hbox); have n2_ := Aside0.mk ((by rw [hg]; exact (below_size (by repeat (first | (with_reducible first | exact HB.out | apply below_alloc | apply pw_below_drewN | apply below_drew1) | exact HB.out))) : w.heap.size ≤ gb104)); have n3_ := Aside0.mk ((by rw [hg]; exact (below_size (by repeat (first | (with_reducible first | exact HB.out | apply below_alloc | apply pw_below_drewN | apply below_drew1) | exact HB.out))) : w.heap.size ≤ gb104)); clear HB; have HB := n0_; have BK104 := n1_; have GW104 := n2_; have GE104 := n3_; clear n0_ n1_ n2_ n3_; clear hb hbox hg; have hcz9_0 : w8.cell? ⟨gb104, 0, none⟩ = some (.int .i64 a0_0) := (blk_cell BK104.out 0).trans rfl; have hcz9_1 : w8.cell? ⟨gb104, 1, none⟩ = some (.int .i64 a0_1) := (blk_cell BK104.out 1).trans rfl; have hcz9_2 : w8.cell? ⟨gb104, 2, none⟩ = some (.int .i64 a0_2) := (blk_cell BK104.out 2).trans rfl; have hfz9_0 := blk_frozen BK104.out 0; have hfz9_1 := blk_frozen BK104.out 1; have hfz9_2 := blk_frozen BK104.out 2) | ((with_reducible refine gate_callee (f := 82) rfl ?_); refine goesL_ (some 5) rfl rfl Try.func82 (by kernel_rfl) rfl #[.int .i64 a0_0] rfl (by (try simp only [List.map_toArray, List.map_cons, List.map_nil]); first | done | rfl | (simp only [List.length_drop, List.length_take]; rfl)) ?_; (with_reducible refine (codepoint_Valid.calls a0_0 true _ A2.out).mono ?_); rintro e w' ⟨rfl, ⟨nd, rfl⟩⟩; refine ⟨_, rfl, ?_⟩) | (go_at_call 82; (with_reducible refine (codepoint_Valid.calls a0_1 false _ A4.out).mono ?_); rintro e w' ⟨rfl, ⟨nd, rfl⟩⟩))
      go_ret
      exact ⟨by first | rfl | (simp [errW_none, errW_some] <;> rfl) | (simp [*, errW_none, errW_some] <;> rfl), by repeat (first | (with_reducible first | exact HB.out | apply below_alloc | apply pw_below_drewN | apply below_drew1 | refine below_set ?_ GE104.out) | exact HB.out)⟩
  · replace c3 := Bool.eq_false_iff.mpr c3
    subst c3
    have H1 : (some false) = some r := by rw [if_neg (show ¬ (false = true) by decide)] at H; exact H
    clear H
    have H := H1
    clear H1
    obtain rfl := Option.some.inj H
    go_enter Try.func74, Try.ntmps74
    go_wp2_with (first | ((with_reducible refine gate_dst (N := 1) rfl ?_); refine box_event ?hg (N := 1) ?hd (cs := #[.int .i64 a0_0, .int .i64 a0_1, .int .i64 a0_2]) (t := 45) ?hr ?_; (case hd => rfl); (case hg => rfl); (case hr => first | (go_simp; done) | (go_simp; rfl)); intro gb104 hg w10 hbox hb; have n0_ := Aside0.mk (below_step (by repeat (first | (with_reducible first | exact HB.out | apply below_alloc | apply pw_below_drewN | apply below_drew1) | exact HB.out)) hb); have n1_ := Aside0.mk (hbox); have n2_ := Aside0.mk ((by rw [hg]; exact (below_size (by repeat (first | (with_reducible first | exact HB.out | apply below_alloc | apply pw_below_drewN | apply below_drew1) | exact HB.out))) : w.heap.size ≤ gb104)); have n3_ := Aside0.mk ((by rw [hg]; exact (below_size (by repeat (first | (with_reducible first | exact HB.out | apply below_alloc | apply pw_below_drewN | apply below_drew1) | exact HB.out))) : w.heap.size ≤ gb104)); clear HB; have HB := n0_; have BK104 := n1_; have GW104 := n2_; have GE104 := n3_; clear n0_ n1_ n2_ n3_; clear hb hbox hg; have hcz11_0 : w10.cell? ⟨gb104, 0, none⟩ = some (.int .i64 a0_0) := (blk_cell BK104.out 0).trans rfl; have hcz11_1 : w10.cell? ⟨gb104, 1, none⟩ = some (.int .i64 a0_1) := (blk_cell BK104.out 1).trans rfl; have hcz11_2 : w10.cell? ⟨gb104, 2, none⟩ = some (.int .i64 a0_2) := (blk_cell BK104.out 2).trans rfl; have hfz11_0 := blk_frozen BK104.out 0; have hfz11_1 := blk_frozen BK104.out 1; have hfz11_2 := blk_frozen BK104.out 2) | ((with_reducible refine gate_callee (f := 82) rfl ?_); refine goesL_ (some 5) rfl rfl Try.func82 (by kernel_rfl) rfl #[.int .i64 a0_0] rfl (by (try simp only [List.map_toArray, List.map_cons, List.map_nil]); first | done | rfl | (simp only [List.length_drop, List.length_take]; rfl)) ?_; (with_reducible refine (codepoint_Valid.calls a0_0 false _ A2.out).mono ?_); rintro e w' ⟨rfl, ⟨nd, rfl⟩⟩; refine ⟨_, rfl, ?_⟩))
    go_ret
    exact ⟨by first | rfl | (simp [errW_none, errW_some] <;> rfl) | (simp [*, errW_none, errW_some] <;> rfl), by repeat (first | (with_reducible first | exact HB.out | apply below_alloc | apply pw_below_drewN | apply below_drew1 | refine below_set ?_ GE104.out) | exact HB.out)⟩

/-! ### property_Valid: function 58 -/
theorem inside_eq (a b c : Int) : property_inside.f a b c = some (decide (0 ≤ a ∧ a ≤ b ∧ b ≤ 1114111)) := by
  simp only [property_inside.f, codepoint_Valid.f]
  by_cases h1 : a ≥ 0
  · rw [if_pos h1, Option.bind_some]
    by_cases h2 : a ≤ 1114111
    · rw [decide_eq_true h2, if_pos rfl]
      by_cases h3 : b ≥ 0
      · rw [if_pos h3, Option.bind_some]
        by_cases h4 : b ≤ 1114111
        · rw [decide_eq_true h4, if_pos rfl]; congr 1; rw [decide_eq_decide]; omega
        · rw [decide_eq_false h4, if_neg (by decide), decide_eq_false (by omega)]
      · rw [if_neg h3, Option.bind_some, if_neg (by decide), decide_eq_false (by omega)]
    · rw [decide_eq_false h2, if_neg (by decide), decide_eq_false (by omega)]
  · rw [if_neg h1, Option.bind_some, if_neg (by decide), decide_eq_false (by omega)]
def property_Valid.f (l0_0 : List ByteArray) (l0_1 : List Sp) : Option Bool := if sizesB l0_0 = true then some (validB l0_0 l0_1) else none
set_option maxHeartbeats 1600000 in
set_option maxRecDepth 100000 in
theorem property_Valid.calls (A0_0 : Option Addr) (c0_0 : Nat) (l0_0 : List ByteArray) (A0_1 : Option Addr) (c0_1 : Nat) (l0_1 : List Sp) (r : Bool) (w : World) (hr0_0 : Kd.C Kd.string w A0_0 l0_0.length l0_0) (hc0_0 : l0_0.length ≤ c0_0) (hr0_1 : Kd.C k45 w A0_1 l0_1.length l0_1) (hc0_1 : l0_1.length ≤ c0_1) (h : property_Valid.f l0_0 l0_1 = some r) :
    Calls Try.prog 58 #[.agg #[.slice A0_0 l0_0.length c0_0, .slice A0_1 l0_1.length c0_1]] w fun e w' => e = .returned (.bool r) ∧ Below w.heap.size w w' := by
  unfold property_Valid.f at h
  by_cases hz : sizesB l0_0 = true
  case neg => rw [if_neg hz] at h; cases h
  rw [if_pos hz] at h
  obtain rfl := Option.some.inj h
  have R0 := Aside0.mk hr0_0
  have R1 := Aside0.mk hr0_1
  have HZ := Aside0.mk hz
  have hm := hr0_1.2.1
  have hm0 := hr0_0.2.1
  clear h hr0_0 hr0_1 hz
  cases hn : namesB l0_0
  · go_enter Try.func58, Try.ntmps58
    go_wp2_with fail
    refine (pindices_calls _ _ _ _ (Kd.C_below R0.out ?_) hc0_0 HZ.out).mono ?_
    · exact (Below.refl _ _).alloc (Nat.le_refl _) _
    rintro e w1 ⟨m, rfl, hb⟩
    rw [hn]
    have HB := Aside0.mk (((Below.refl w.heap.size w).alloc (Nat.le_refl _) _).trans (hb.mono (by simp)))
    clear hb
    go_wp2
    go_ret
    exact ⟨ret_bool (by unfold validB; rw [hn]; rfl), HB.out⟩
  · have HN := Aside0.mk hn
    go_enter Try.func58, Try.ntmps58
    go_wp2_with fail
    refine (pindices_calls _ _ _ _ (Kd.C_below R0.out ?_) hc0_0 HZ.out).mono ?_
    · exact (Below.refl _ _).alloc (Nat.le_refl _) _
    rintro e w1 ⟨m, rfl, hb⟩
    rw [hn]
    clear hn
    have c0 := pw_cell_below (a := ⟨w.heap.size, 0, none⟩) hb (v := .slice A0_0 l0_0.length c0_0) (by simp)
    have c1 := pw_cell_below (a := ⟨w.heap.size, 1, none⟩) hb (v := .slice A0_1 l0_1.length c0_1) (by simp)
    have HB := Aside0.mk (((Below.refl w.heap.size w).alloc (Nat.le_refl _) _).trans (hb.mono (by simp)))
    have hlt1 : w.heap.size < w1.heap.size := by have := hb.size; simp at this; omega
    clear hb
    go_wp2
    have RW := Aside0.mk (Kd.C_below R1.out HB.out)
    go_loopw [19] (fun i wr => ∃ k : Nat, k ≤ l0_1.length ∧ i = .int .i64 k ∧ Aside0 (Below w1.heap.size w1 wr) ∧ Aside0 (PrevOk (prevOf l0_1 k)) ∧ Aside0 (spansB l0_0.length (prevOf l0_1 k) (l0_1.drop k) = spansB l0_0.length none l0_1)) (fun i _ => l0_1.length - (intOf i).toNat)
    case atStart => exact ⟨0, Nat.zero_le _, rfl, ⟨Below.refl _ _⟩, ⟨trivial⟩, ⟨rfl⟩⟩
    case round =>
      obtain ⟨k, hk, rfl, hB, hP, hS⟩ := hrel
      by_cases hlt : k < l0_1.length
      · obtain ⟨ad, e, x0, x1, x2⟩ := at_T45 (Kd.C_below RW.out hB.out) (k : Int) (by omega) (by omega)
        cases e
        rw [show ((k : Int)).toNat = k from rfl] at x0 x1 x2
        have d0 := pw_cell_below hB.out c0
        have d1 := pw_cell_below hB.out c1
        have hsz : w1.heap.size ≤ wr.heap.size := hB.out.size
        obtain ⟨x, hx⟩ : ∃ x, x = rd_T45 l0_1 (k : Int) := ⟨_, rfl⟩
        rw [← hx] at x0 x1 x2
        have hdrop : Aside0 (l0_1.drop k = x :: l0_1.drop (k + 1)) := ⟨by rw [hx]; exact drop_at l0_1 z45 k hlt⟩
        have hnext : Aside0 (prevOf l0_1 (k + 1) = some x) := ⟨by unfold prevOf; rw [if_neg (by omega), hx]; rfl⟩
        have hX := Aside0.mk hx
        clear hx
        cases x with | mk a b c =>
        dsimp only at x0 x1 x2
        by_cases hi : 0 ≤ a ∧ a ≤ b ∧ b ≤ 1114111
        case neg =>
          have hin : property_inside.f a b c = some false := by rw [inside_eq, decide_eq_false hi]
          have HI := Aside0.mk hin
          have hs : Aside0 (spanB l0_0.length (⟨a, b, c⟩ : Sp) = false) := ⟨Bool.eq_false_iff.mpr fun h => hi ⟨((spanB_iff _ _).1 h).1, ((spanB_iff _ _).1 h).2.1, ((spanB_iff _ _).1 h).2.2.1⟩⟩
          clear hin hi
          go_wp2_with (go_at_call 74; refine (property_inside.calls a b c false _ HI.out).mono ?_; rintro e w2 ⟨rfl, hb2⟩; have y0 := pw_cell_below (a := ⟨wr.heap.size, 0, none⟩) hb2 (v := .int .i64 a) (by simp); have y1 := pw_cell_below (a := ⟨wr.heap.size, 1, none⟩) hb2 (v := .int .i64 b) (by simp); have y2 := pw_cell_below (a := ⟨wr.heap.size, 2, none⟩) hb2 (v := .int .i64 c) (by simp); have f0 := pw_cell_below hb2 (pw_cell_below (below_alloc (Below.refl _ _) _) d0); have f1 := pw_cell_below hb2 (pw_cell_below (below_alloc (Below.refl _ _) _) d1); have h2sz : wr.heap.size < w2.heap.size := (by have := hb2.size; simp at this; omega); have hB2 := Aside0.mk ((below_alloc hB.out _).trans (hb2.mono (by simp; omega))); clear hb2)
          go_ret
          refine ⟨ret_bool ?_, HB.out.trans (hB2.out.mono HB.out.size)⟩
          unfold validB
          rw [HN.out, ← hS.out, hdrop.out, spansB_cons, hs.out]; simp
        have hin : property_inside.f a b c = some true := by rw [inside_eq, decide_eq_true hi]
        have HI := Aside0.mk hin
        clear hin
        by_cases q1 : c < 1
        case pos =>
          have hs : Aside0 (spanB l0_0.length (⟨a, b, c⟩ : Sp) = false) := ⟨Bool.eq_false_iff.mpr fun h => by have h4 : 1 ≤ c := ((spanB_iff _ _).1 h).2.2.2.1; omega⟩
          go_wp2_with (go_at_call 74; refine (property_inside.calls a b c true _ HI.out).mono ?_; rintro e w2 ⟨rfl, hb2⟩; have y0 := pw_cell_below (a := ⟨wr.heap.size, 0, none⟩) hb2 (v := .int .i64 a) (by simp); have y1 := pw_cell_below (a := ⟨wr.heap.size, 1, none⟩) hb2 (v := .int .i64 b) (by simp); have y2 := pw_cell_below (a := ⟨wr.heap.size, 2, none⟩) hb2 (v := .int .i64 c) (by simp); have f0 := pw_cell_below hb2 (pw_cell_below (below_alloc (Below.refl _ _) _) d0); have f1 := pw_cell_below hb2 (pw_cell_below (below_alloc (Below.refl _ _) _) d1); have h2sz : wr.heap.size < w2.heap.size := (by have := hb2.size; simp at this; omega); have hB2 := Aside0.mk ((below_alloc hB.out _).trans (hb2.mono (by simp; omega))); clear hb2)
          go_ret
          refine ⟨ret_bool ?_, HB.out.trans (hB2.out.mono HB.out.size)⟩
          unfold validB
          rw [HN.out, ← hS.out, hdrop.out, spansB_cons, hs.out]; simp
        by_cases q2 : c ≥ (l0_0.length : Int)
        case pos =>
          have hs : Aside0 (spanB l0_0.length (⟨a, b, c⟩ : Sp) = false) := ⟨Bool.eq_false_iff.mpr fun h => by have h4 : c < (l0_0.length : Int) := ((spanB_iff _ _).1 h).2.2.2.2; omega⟩
          go_wp2_with (go_at_call 74; refine (property_inside.calls a b c true _ HI.out).mono ?_; rintro e w2 ⟨rfl, hb2⟩; have y0 := pw_cell_below (a := ⟨wr.heap.size, 0, none⟩) hb2 (v := .int .i64 a) (by simp); have y1 := pw_cell_below (a := ⟨wr.heap.size, 1, none⟩) hb2 (v := .int .i64 b) (by simp); have y2 := pw_cell_below (a := ⟨wr.heap.size, 2, none⟩) hb2 (v := .int .i64 c) (by simp); have f0 := pw_cell_below hb2 (pw_cell_below (below_alloc (Below.refl _ _) _) d0); have f1 := pw_cell_below hb2 (pw_cell_below (below_alloc (Below.refl _ _) _) d1); have h2sz : wr.heap.size < w2.heap.size := (by have := hb2.size; simp at this; omega); have hB2 := Aside0.mk ((below_alloc hB.out _).trans (hb2.mono (by simp; omega))); clear hb2)
          go_ret
          refine ⟨ret_bool ?_, HB.out.trans (hB2.out.mono HB.out.size)⟩
          unfold validB
          rw [HN.out, ← hS.out, hdrop.out, spansB_cons, hs.out]; simp
        have hs : Aside0 (spanB l0_0.length (⟨a, b, c⟩ : Sp) = true) := ⟨(spanB_iff _ _).2 ⟨hi.1, hi.2.1, hi.2.2, by show 1 ≤ c; omega, by show c < _; omega⟩⟩
        have hnP : Aside0 (PrevOk (some (⟨a, b, c⟩ : Sp))) := ⟨⟨by show 0 ≤ b; omega, hi.2.2⟩⟩
        obtain ⟨i1, i2, i3⟩ := hi
        cases k with
        | zero =>
          simp only [Nat.zero_mul, Addr.add_zero'] at x0 x1 x2
          go_wp2_with (go_at_call 74; refine (property_inside.calls a b c true _ HI.out).mono ?_; rintro e w2 ⟨rfl, hb2⟩; have y0 := pw_cell_below (a := ⟨wr.heap.size, 0, none⟩) hb2 (v := .int .i64 a) (by simp); have y1 := pw_cell_below (a := ⟨wr.heap.size, 1, none⟩) hb2 (v := .int .i64 b) (by simp); have y2 := pw_cell_below (a := ⟨wr.heap.size, 2, none⟩) hb2 (v := .int .i64 c) (by simp); have f0 := pw_cell_below hb2 (pw_cell_below (below_alloc (Below.refl _ _) _) d0); have f1 := pw_cell_below hb2 (pw_cell_below (below_alloc (Below.refl _ _) _) d1); have h2sz : wr.heap.size < w2.heap.size := (by have := hb2.size; simp at this; omega); have hB2 := Aside0.mk ((below_alloc hB.out _).trans (hb2.mono (by simp; omega))); clear hb2)
          go_roundw
          case rel => exact ⟨1, by omega, by go_num, hB2, ⟨by rw [hnext.out]; exact hnP.out⟩, ⟨by rw [hnext.out, ← hS.out, hdrop.out, spansB_cons, hs.out]; rfl⟩⟩
          case measure => simp [intOf]; omega
        | succ j =>
          obtain ⟨ad', e', z0, z1, z2⟩ := at_T45 (Kd.C_below RW.out hB.out) (j : Int) (by omega) (by omega)
          obtain rfl : ad = ad' := by injection e'
          rw [show ((j : Int)).toNat = j from rfl] at z0 z1 z2
          have hprev : Aside0 (prevOf l0_1 (j + 1) = some (rd_T45 l0_1 (j : Int))) := ⟨by unfold prevOf; rw [if_neg (by omega)]; rfl⟩
          obtain ⟨y, hy⟩ : ∃ y, y = rd_T45 l0_1 (j : Int) := ⟨_, rfl⟩
          rw [← hy] at z0 z1 z2 hprev
          have hP' : PrevOk (some y) := by rw [← hprev.out]; exact hP.out
          clear hy e'
          cases y with | mk a' b' c' =>
          dsimp only at z0 z1 z2
          have p0 : 0 ≤ b' := hP'.1
          have p1 : b' ≤ 1114111 := hP'.2
          clear hP'
          by_cases t1 : b' ≥ a
          case pos =>
            have hp : Aside0 (pairB (⟨a', b', c'⟩ : Sp) ⟨a, b, c⟩ = false) := ⟨by unfold pairB; rw [decide_eq_false (show ¬ b' < a by omega)]; rfl⟩
            go_wp2_with (go_at_call 74; refine (property_inside.calls a b c true _ HI.out).mono ?_; rintro e w2 ⟨rfl, hb2⟩; have y0 := pw_cell_below (a := ⟨wr.heap.size, 0, none⟩) hb2 (v := .int .i64 a) (by simp); have y1 := pw_cell_below (a := ⟨wr.heap.size, 1, none⟩) hb2 (v := .int .i64 b) (by simp); have y2 := pw_cell_below (a := ⟨wr.heap.size, 2, none⟩) hb2 (v := .int .i64 c) (by simp); have f0 := pw_cell_below hb2 (pw_cell_below (below_alloc (Below.refl _ _) _) d0); have f1 := pw_cell_below hb2 (pw_cell_below (below_alloc (Below.refl _ _) _) d1); have h2sz : wr.heap.size < w2.heap.size := (by have := hb2.size; simp at this; omega); have hB2 := Aside0.mk ((below_alloc hB.out _).trans (hb2.mono (by simp; omega))); have z0' := pw_cell_below hb2 (pw_cell_below (below_alloc (Below.refl _ _) _) z0); have z1' := pw_cell_below hb2 (pw_cell_below (below_alloc (Below.refl _ _) _) z1); have z2' := pw_cell_below hb2 (pw_cell_below (below_alloc (Below.refl _ _) _) z2); clear hb2)
            go_ret
            refine ⟨ret_bool ?_, HB.out.trans ((below_alloc hB2.out _).mono HB.out.size)⟩
            unfold validB
            rw [HN.out, ← hS.out, hdrop.out, spansB_cons, hprev.out]
            show false = (true && (spanB _ _ && pairB _ _ && _))
            rw [hs.out, hp.out]; rfl
          by_cases t2 : b' + 1 = a
          case neg =>
            have hp : Aside0 (pairB (⟨a', b', c'⟩ : Sp) ⟨a, b, c⟩ = true) := ⟨by unfold pairB; rw [decide_eq_true (show b' < a by omega), decide_eq_false t2]; rfl⟩
            go_wp2_with (go_at_call 74; refine (property_inside.calls a b c true _ HI.out).mono ?_; rintro e w2 ⟨rfl, hb2⟩; have y0 := pw_cell_below (a := ⟨wr.heap.size, 0, none⟩) hb2 (v := .int .i64 a) (by simp); have y1 := pw_cell_below (a := ⟨wr.heap.size, 1, none⟩) hb2 (v := .int .i64 b) (by simp); have y2 := pw_cell_below (a := ⟨wr.heap.size, 2, none⟩) hb2 (v := .int .i64 c) (by simp); have f0 := pw_cell_below hb2 (pw_cell_below (below_alloc (Below.refl _ _) _) d0); have f1 := pw_cell_below hb2 (pw_cell_below (below_alloc (Below.refl _ _) _) d1); have h2sz : wr.heap.size < w2.heap.size := (by have := hb2.size; simp at this; omega); have hB2 := Aside0.mk ((below_alloc hB.out _).trans (hb2.mono (by simp; omega))); have z0' := pw_cell_below hb2 (pw_cell_below (below_alloc (Below.refl _ _) _) z0); have z1' := pw_cell_below hb2 (pw_cell_below (below_alloc (Below.refl _ _) _) z1); have z2' := pw_cell_below hb2 (pw_cell_below (below_alloc (Below.refl _ _) _) z2); clear hb2)
            go_roundw
            case rel =>
              refine ⟨j + 1 + 1, by omega, by go_num, ⟨below_alloc hB2.out _⟩, ⟨by rw [hnext.out]; exact hnP.out⟩, ⟨?_⟩⟩
              rw [hnext.out, ← hS.out, hdrop.out, spansB_cons, hprev.out]
              show _ = (spanB _ _ && pairB _ _ && _)
              rw [hs.out, hp.out]; rfl
            case measure => simp [intOf]; omega
          by_cases t3 : c' = c
          case pos =>
            have hp : Aside0 (pairB (⟨a', b', c'⟩ : Sp) ⟨a, b, c⟩ = false) := ⟨by unfold pairB; rw [decide_eq_true t2, decide_eq_true t3]; simp⟩
            have t2' : Aside0 (b' + 1 = a) := ⟨t2⟩
            go_wp2_with (go_at_call 74; refine (property_inside.calls a b c true _ HI.out).mono ?_; rintro e w2 ⟨rfl, hb2⟩; have y0 := pw_cell_below (a := ⟨wr.heap.size, 0, none⟩) hb2 (v := .int .i64 a) (by simp); have y1 := pw_cell_below (a := ⟨wr.heap.size, 1, none⟩) hb2 (v := .int .i64 b) (by simp); have y2 := pw_cell_below (a := ⟨wr.heap.size, 2, none⟩) hb2 (v := .int .i64 c) (by simp); have f0 := pw_cell_below hb2 (pw_cell_below (below_alloc (Below.refl _ _) _) d0); have f1 := pw_cell_below hb2 (pw_cell_below (below_alloc (Below.refl _ _) _) d1); have h2sz : wr.heap.size < w2.heap.size := (by have := hb2.size; simp at this; omega); have hB2 := Aside0.mk ((below_alloc hB.out _).trans (hb2.mono (by simp; omega))); have z0' := pw_cell_below hb2 (pw_cell_below (below_alloc (Below.refl _ _) _) z0); have z1' := pw_cell_below hb2 (pw_cell_below (below_alloc (Below.refl _ _) _) z1); have z2' := pw_cell_below hb2 (pw_cell_below (below_alloc (Below.refl _ _) _) z2); clear hb2)
            go_ret
            refine ⟨ret_bool ?_, HB.out.trans ((below_alloc hB2.out _).mono HB.out.size)⟩
            unfold validB
            rw [HN.out, ← hS.out, hdrop.out, spansB_cons, hprev.out]
            show false = (true && (spanB _ _ && pairB _ _ && _))
            rw [hs.out, hp.out]; rfl
          have hp : Aside0 (pairB (⟨a', b', c'⟩ : Sp) ⟨a, b, c⟩ = true) := ⟨by unfold pairB; rw [decide_eq_true (show b' < a by omega), decide_eq_false t3]; simp⟩
          have u2 : ((b' + 1 : Int) == a) = true := beq_iff_eq.2 t2
          have u3 : (c' == c) = false := beq_eq_false_iff_ne.2 t3
          clear t2 t3
          go_wp2_with (go_at_call 74; refine (property_inside.calls a b c true _ HI.out).mono ?_; rintro e w2 ⟨rfl, hb2⟩; have y0 := pw_cell_below (a := ⟨wr.heap.size, 0, none⟩) hb2 (v := .int .i64 a) (by simp); have y1 := pw_cell_below (a := ⟨wr.heap.size, 1, none⟩) hb2 (v := .int .i64 b) (by simp); have y2 := pw_cell_below (a := ⟨wr.heap.size, 2, none⟩) hb2 (v := .int .i64 c) (by simp); have f0 := pw_cell_below hb2 (pw_cell_below (below_alloc (Below.refl _ _) _) d0); have f1 := pw_cell_below hb2 (pw_cell_below (below_alloc (Below.refl _ _) _) d1); have h2sz : wr.heap.size < w2.heap.size := (by have := hb2.size; simp at this; omega); have hB2 := Aside0.mk ((below_alloc hB.out _).trans (hb2.mono (by simp; omega))); have z0' := pw_cell_below hb2 (pw_cell_below (below_alloc (Below.refl _ _) _) z0); have z1' := pw_cell_below hb2 (pw_cell_below (below_alloc (Below.refl _ _) _) z1); have z2' := pw_cell_below hb2 (pw_cell_below (below_alloc (Below.refl _ _) _) z2); clear hb2)
          go_roundw
          case rel =>
            refine ⟨j + 1 + 1, by omega, by go_num, ⟨below_alloc hB2.out _⟩, ⟨by rw [hnext.out]; exact hnP.out⟩, ⟨?_⟩⟩
            rw [hnext.out, ← hS.out, hdrop.out, spansB_cons, hprev.out]
            show _ = (spanB _ _ && pairB _ _ && _)
            rw [hs.out, hp.out]; rfl
          case measure => simp [intOf]; omega
      · obtain rfl : k = l0_1.length := by omega
        go_wp2
        go_ret
        refine ⟨ret_bool ?_, HB.out.trans (hB.out.mono HB.out.size)⟩
        unfold validB
        rw [HN.out, ← hS.out, List.drop_length]; rfl

/-! ### prelude spans -/
theorem spans_up (n : Nat) : ∀ (r : List Sp) (x : Sp), spansB n (some x) r = true → ∀ y ∈ r, x.f1 < y.f0 ∧ y.f0 ≤ y.f1 := by
  intro r
  induction r with
  | nil => intro x _ y hy; cases hy
  | cons z r ih =>
    intro x h y hy
    rw [spansB_cons] at h
    simp only [Bool.and_eq_true] at h
    have hz := (spanB_iff _ _).1 h.1.1
    have hp : x.f1 < z.f0 := by have h2 := h.1.2; unfold pairB at h2; simp only [Bool.and_eq_true, decide_eq_true_eq] at h2; exact h2.1
    rcases List.mem_cons.1 hy with rfl | hy
    · exact ⟨hp, hz.2.1⟩
    · have := ih z h.2 y hy; omega
theorem spans_ok (n : Nat) : ∀ (r : List Sp) (p : Option Sp), spansB n p r = true → ∀ y ∈ r, spanB n y = true := by
  intro r
  induction r with
  | nil => intro p _ y hy; cases hy
  | cons z r ih =>
    intro p h y hy
    rw [spansB_cons] at h
    simp only [Bool.and_eq_true] at h
    rcases List.mem_cons.1 hy with rfl | hy
    · exact h.1.1
    · exact ih _ h.2 y hy
theorem spans_len (n : Nat) : ∀ (r : List Sp) (p : Option Sp), spansB n p r = true → ∀ m : Int, (∀ y ∈ r, m ≤ y.f0) → m ≤ 1114112 → (r.length : Int) ≤ 1114112 - m := by
  intro r
  induction r with
  | nil => intro p _ m _ hm; simp; omega
  | cons z r ih =>
    intro p h m hm hm2
    have hu := fun y hy => spans_up n r z (by rw [spansB_cons] at h; simp only [Bool.and_eq_true] at h; exact h.2) y hy
    have hz := (spanB_iff _ _).1 (spans_ok n _ _ h z List.mem_cons_self)
    rw [spansB_cons] at h
    simp only [Bool.and_eq_true] at h
    have h0 := hm z List.mem_cons_self
    have := ih (some z) h.2 (z.f1 + 1) (fun y hy => by have := hu y hy; omega) (by omega)
    rw [List.length_cons]; omega
theorem valid_few {names : List ByteArray} {spans : List Sp} (h : validB names spans = true) : spans.length ≤ 1114112 := by
  have hs := valid_spans h
  have := spans_len _ _ _ hs 0 (fun y hy => ((spanB_iff _ _).1 (spans_ok _ _ _ hs y hy)).1) (by omega)
  omega
def cmpB (c : Int) (x : Sp) : Int := if x.f1 < c then -1 else if x.f0 > c then 1 else 0
theorem getB_cut (n : Nat) (c : Int) : ∀ (l : List Sp) (p : Option Sp), spansB n p l = true →
    ∃ I, I ≤ l.length ∧ (∀ h, h < l.length → ((l.getD h z45).f1 < c ↔ h < I)) ∧
      getB l c = if I < l.length ∧ (l.getD I z45).f0 ≤ c then (l.getD I z45).f2 else 0 := by
  intro l
  induction l with
  | nil => intro p _; exact ⟨0, Nat.le_refl _, fun h hh => absurd hh (Nat.not_lt_zero _), by simp [getB]⟩
  | cons x r ih =>
    intro p h
    have hx := (spanB_iff _ _).1 (spans_ok n _ _ h x List.mem_cons_self)
    rw [spansB_cons] at h
    simp only [Bool.and_eq_true] at h
    have hu := spans_up n r x h.2
    by_cases hc : x.f1 < c
    · obtain ⟨I, h1, h2, h3⟩ := ih _ h.2
      refine ⟨I + 1, by rw [List.length_cons]; omega, ?_, ?_⟩
      · intro k hk
        cases k with
        | zero => exact ⟨fun _ => by omega, fun _ => hc⟩
        | succ k => rw [List.length_cons] at hk; rw [List.getD_cons_succ, h2 k (by omega)]; omega
      · unfold getB
        rw [if_neg (by omega), h3, List.getD_cons_succ, List.length_cons]
        by_cases hI : I < r.length
        · by_cases h0 : (r.getD I z45).f0 ≤ c
          · rw [if_pos ⟨hI, h0⟩, if_pos ⟨by omega, h0⟩]
          · rw [if_neg (fun h => h0 h.2), if_neg (fun h => h0 h.2)]
        · rw [if_neg (fun h => hI h.1), if_neg (fun h => hI (by omega))]
    · refine ⟨0, Nat.zero_le _, ?_, ?_⟩
      · intro k hk
        refine ⟨fun h4 => ?_, fun h4 => absurd h4 (Nat.not_lt_zero _)⟩
        cases k with
        | zero => exact absurd h4 hc
        | succ k =>
          rw [List.length_cons] at hk
          rw [List.getD_cons_succ] at h4
          have hm : r.getD k z45 ∈ r := by rw [List.getD_eq_getElem?_getD, List.getElem?_eq_getElem (by omega)]; exact List.getElem_mem _
          have := hu _ hm
          omega
      · have hr : getB r c = 0 := by
          have key : ∀ (q : List Sp), (∀ y ∈ q, x.f1 < y.f0 ∧ y.f0 ≤ y.f1) → getB q c = 0 := by
            intro q
            induction q with
            | nil => intro _; rfl
            | cons y q ih => intro hq; have hy := hq y List.mem_cons_self; unfold getB; rw [if_neg (by omega)]; exact ih fun z hz => hq z (List.mem_cons_of_mem _ hz)
          exact key r hu
        unfold getB
        rw [hr, List.getD_cons_zero, List.length_cons]
        by_cases h0 : x.f0 ≤ c
        · rw [if_pos ⟨h0, by omega⟩, if_pos ⟨by omega, h0⟩]
        · rw [if_neg (fun h => h0 h.1), if_neg (fun h => h0 h.2)]

/-! ### property_Get: function 53 -/
theorem pget1_calls (c : Int) (a b v : Int) (W : World) :
    Calls Try.prog 60 #[.agg #[.int .i64 a, .int .i64 b, .int .i64 v], .int .i64 c] W fun e w' => e = .returned (.int .i64 (cmpB c ⟨a, b, v⟩)) ∧ Below W.heap.size W w' := by
  by_cases h1 : b < c
  · go_enter Try.func60, Try.ntmps60
    go_wp2
    go_ret
    exact ⟨ret_int (by unfold cmpB; rw [if_pos (show b < c by omega)]), (Below.refl _ _).alloc (Nat.le_refl _) _⟩
  · by_cases h2 : a > c
    · go_enter Try.func60, Try.ntmps60
      go_wp2
      go_ret
      exact ⟨ret_int (by unfold cmpB; rw [if_neg (show ¬ b < c by omega), if_pos (show a > c by omega)]), (Below.refl _ _).alloc (Nat.le_refl _) _⟩
    · go_enter Try.func60, Try.ntmps60
      go_wp2
      go_ret
      exact ⟨ret_int (by unfold cmpB; rw [if_neg (show ¬ b < c by omega), if_neg (show ¬ a > c by omega)]), (Below.refl _ _).alloc (Nat.le_refl _) _⟩
theorem cmpB_neg (c : Int) (x : Sp) : cmpB c x < 0 ↔ x.f1 < c := by
  unfold cmpB; by_cases h : x.f1 < c
  · rw [if_pos h]; exact ⟨fun _ => h, fun _ => by decide⟩
  · rw [if_neg h]; refine ⟨fun h2 => ?_, fun h2 => absurd h2 h⟩; split at h2 <;> omega
theorem cmpB_zero (c : Int) (x : Sp) (h : ¬ x.f1 < c) : cmpB c x = 0 ↔ x.f0 ≤ c := by
  unfold cmpB; rw [if_neg h]; by_cases h0 : x.f0 > c
  · rw [if_pos h0]; omega
  · rw [if_neg h0]; omega
set_option maxHeartbeats 800000 in
set_option maxRecDepth 100000 in
theorem pcounted_yes (A0 : Option Addr) (c0 : Nat) (l0 : List ByteArray) (A1 : Option Addr) (c1 : Nat) (l1 : List Sp) (w : World) (hr0 : Kd.C Kd.string w A0 l0.length l0) (hc0 : l0.length ≤ c0) (hr1 : Kd.C k45 w A1 l1.length l1) (hc1 : l1.length ≤ c1)
    (hz : sizesB l0 = true) (h : validB l0 l1 = true) :
    Calls Try.prog 52 #[.agg #[.slice A0 l0.length c0, .slice A1 l1.length c1]] w fun e w' => e = .returned (.agg #[.slice A0 l0.length c0, .slice A1 l1.length c1]) ∧ Below w.heap.size w w' := by
  have hk : property_Valid.f l0 l1 = some true := by unfold property_Valid.f; rw [if_pos hz, h]
  have H := Aside0.mk hk
  have R0 := Aside0.mk hr0
  have R1 := Aside0.mk hr1
  clear h hr0 hr1 hk hz
  go_enter Try.func52, Try.ntmps52
  go_wp2_with fail
  refine (property_Valid.calls _ _ _ _ _ _ true _ (Kd.C_below R0.out ?_) hc0 (Kd.C_below R1.out ?_) hc1 H.out).mono ?_
  · exact ((Below.refl _ _).alloc (Nat.le_refl _) _).alloc (by simp) _
  · exact ((Below.refl _ _).alloc (Nat.le_refl _) _).alloc (by simp) _
  rintro e w1 ⟨rfl, hb⟩
  obtain ⟨hc, hf⟩ := bcell hb
  have hz : w.heap.size + 1 < w1.heap.size := by have := hb.size; simp at this; omega
  have HB := Aside0.mk hb
  clear hb
  go_wp2
  refine bodyPost_ret (v := .agg #[.slice A0 l0.length c0, .slice A1 l1.length c1]) (by simp [results, Try.results52, go_sem, hc, hz]) rfl ⟨rfl, ?_⟩
  exact ((((Below.refl _ _).alloc (Nat.le_refl _) _).alloc (by simp) _).trans (HB.out.mono (by simp; omega))).setCell (by simp) _ |>.setCell (by simp) _
set_option maxHeartbeats 800000 in
set_option maxRecDepth 100000 in
theorem pcounted_no (A0 : Option Addr) (c0 : Nat) (l0 : List ByteArray) (A1 : Option Addr) (c1 : Nat) (l1 : List Sp) (w : World) (hr0 : Kd.C Kd.string w A0 l0.length l0) (hc0 : l0.length ≤ c0) (hr1 : Kd.C k45 w A1 l1.length l1) (hc1 : l1.length ≤ c1)
    (hz : sizesB l0 = true) (h : validB l0 l1 = false) :
    Calls Try.prog 52 #[.agg #[.slice A0 l0.length c0, .slice A1 l1.length c1]] w fun e w' => ∃ b, e = .returned (.agg #[.slice (some ⟨b, 0, none⟩) 1 1, .slice none 0 0]) ∧ w'.cell? ⟨b, 0, none⟩ = some (.string otherS) ∧ b < w'.heap.size ∧ Below w.heap.size w w' := by
  have hk : property_Valid.f l0 l1 = some false := by unfold property_Valid.f; rw [if_pos hz, h]
  have H := Aside0.mk hk
  have R0 := Aside0.mk hr0
  have R1 := Aside0.mk hr1
  clear h hr0 hr1 hk hz
  go_enter Try.func52, Try.ntmps52
  go_wp2_with fail
  refine (property_Valid.calls _ _ _ _ _ _ false _ (Kd.C_below R0.out ?_) hc0 (Kd.C_below R1.out ?_) hc1 H.out).mono ?_
  · exact ((Below.refl _ _).alloc (Nat.le_refl _) _).alloc (by simp) _
  · exact ((Below.refl _ _).alloc (Nat.le_refl _) _).alloc (by simp) _
  rintro e w1 ⟨rfl, hb⟩
  obtain ⟨hc, hf⟩ := bcell hb
  have hz : w.heap.size + 1 < w1.heap.size := by have := hb.size; simp at this; omega
  have HB := Aside0.mk hb
  clear hb
  go_wp2
  refine bodyPost_ret (v := .agg #[.slice (some ⟨w1.heap.size, 0, none⟩) 1 1, .slice none 0 0]) (by simp [results, Try.results52, go_sem, hc, hz]) rfl ⟨w1.heap.size, rfl, ?_, by simp, ?_⟩
  · have z := blk_cell (heap_alloc_new ((w1.setCell ⟨w.heap.size + 1, 0, none⟩ (.slice (some ⟨w1.heap.size, 0, none⟩) 1 1)).setCell ⟨w.heap.size + 1, 1, none⟩ (.slice none 0 0)) (.cells #[.string otherS] 9)) 0
    simpa [otherS] using z
  exact (((((Below.refl _ _).alloc (Nat.le_refl _) _).alloc (by simp) _).trans (HB.out.mono (by simp; omega))).setCell (by simp) _ |>.setCell (by simp) _).alloc (by simp; omega) _
def property_Get.f (l0_0 : List ByteArray) (l0_1 : List Sp) (a1 : Int) : Option Int := if sizesB l0_0 = true then some (getOf l0_0 l0_1 a1) else none
set_option maxHeartbeats 800000 in
set_option maxRecDepth 100000 in
theorem pget_yes (A0 : Option Addr) (c0 : Nat) (l0 : List ByteArray) (A1 : Option Addr) (c1 : Nat) (l1 : List Sp) (a1 : Int) (w : World) (hr0 : Kd.C Kd.string w A0 l0.length l0) (hc0 : l0.length ≤ c0) (hr1 : Kd.C k45 w A1 l1.length l1) (hc1 : l1.length ≤ c1)
    (hz : sizesB l0 = true) (h : validB l0 l1 = true) :
    Calls Try.prog 53 #[.agg #[.slice A0 l0.length c0, .slice A1 l1.length c1], .int .i64 a1] w fun e w' => e = .returned (.int .i64 (getB l1 a1)) ∧ Below w.heap.size w w' := by
  obtain ⟨I, hI, hcut, hget⟩ := getB_cut l0.length a1 l1 none (valid_spans h)
  have hfew := valid_few h
  have R0 := Aside0.mk hr0
  have R1 := Aside0.mk hr1
  have H := Aside0.mk h
  have HZ := Aside0.mk hz
  have HC := Aside0.mk hcut
  have HG := Aside0.mk hget
  clear h hr0 hr1 hz hcut hget
  go_enter Try.func53, Try.ntmps53
  go_wp2_with fail
  refine (pcounted_yes _ _ _ _ _ _ _ (Kd.C_below R0.out ?_) hc0 (Kd.C_below R1.out ?_) hc1 HZ.out H.out).mono ?_
  · exact (Below.refl _ _).alloc (Nat.le_refl _) _
  · exact (Below.refl _ _).alloc (Nat.le_refl _) _
  rintro e w1 ⟨rfl, hb⟩
  obtain ⟨hc, hf⟩ := bcell hb
  have hz : w.heap.size < w1.heap.size := by have := hb.size; simp at this; omega
  have HB := Aside0.mk (((Below.refl w.heap.size w).alloc (Nat.le_refl _) _).trans (hb.mono (by simp)))
  clear hb
  go_wp2_with fail
  obtain ⟨W, hW⟩ : ∃ W, W = (w1.setCell ⟨w.heap.size, 0, none⟩ (.slice A0 l0.length c0)).setCell ⟨w.heap.size, 1, none⟩ (.slice A1 l1.length c1) := ⟨_, rfl⟩
  have BW : Below w.heap.size w W := by rw [hW]; exact (HB.out.setCell (Nat.le_refl _) _).setCell (Nat.le_refl _) _
  have d1 : W.cell? ⟨w.heap.size, 1, none⟩ = some (.slice A1 l1.length c1) := by rw [hW]; simp [go_sem, hc, hz]
  have RW := Aside0.mk (Kd.C_below R1.out BW)
  have BW' := Aside0.mk BW
  rw [← hW]
  clear hW BW
  refine (bsearch_calls 60 (enters_of Try.func60 (by kernel_rfl) rfl) (cmpB a1) _ _ _ a1 I W RW.out hc1 (by omega) hI (fun h hh => (cmpB_neg _ _).trans (HC.out h hh)) (fun a b c W' _ => pget1_calls a1 a b c W')).mono ?_
  rintro e w2 ⟨rfl, hb2⟩
  have d2 := pw_cell_below hb2 d1
  have B2 := Aside0.mk (BW'.out.trans (hb2.mono BW'.out.size))
  by_cases hf0 : I < l1.length ∧ (l1.getD I z45).f0 ≤ a1
  · have hx : decide (I < l1.length) && decide (cmpB a1 (l1.getD I z45) = 0) := by
      have hnn : ¬ (l1.getD I z45).f1 < a1 := fun h => Nat.lt_irrefl _ ((HC.out I hf0.1).1 h)
      rw [decide_eq_true hf0.1, decide_eq_true ((cmpB_zero _ _ hnn).2 hf0.2)]; rfl
    rw [hx]
    have HGx := Aside0.mk (show getB l1 a1 = (rd_T45 l1 (I : Int)).f2 by rw [HG.out, if_pos hf0]; rfl)
    have hI2 := hf0.1
    clear hx hf0
    obtain ⟨ad, e, x0, x1, x2⟩ := at_T45 (Kd.C_below RW.out hb2) (I : Int) (by omega) (by omega)
    cases e
    rw [show ((I : Int)).toNat = I from rfl] at x0 x1 x2
    clear hb2
    go_wp2
    go_ret
    exact ⟨ret_int HGx.out.symm, B2.out⟩
  · have hx : (decide (I < l1.length) && decide (cmpB a1 (l1.getD I z45) = 0)) = false := by
      by_cases hi : I < l1.length
      · have hnn : ¬ (l1.getD I z45).f1 < a1 := fun h => Nat.lt_irrefl _ ((HC.out I hi).1 h)
        rw [decide_eq_true hi, decide_eq_false (fun h => hf0 ⟨hi, (cmpB_zero _ _ hnn).1 h⟩)]; rfl
      · rw [decide_eq_false hi]; rfl
    rw [hx]
    have HGx := Aside0.mk (show getB l1 a1 = 0 by rw [HG.out, if_neg hf0])
    clear hx hf0 hb2
    go_wp2
    go_ret
    exact ⟨ret_int HGx.out.symm, B2.out⟩
set_option maxHeartbeats 800000 in
set_option maxRecDepth 100000 in
theorem pget_no (A0 : Option Addr) (c0 : Nat) (l0 : List ByteArray) (A1 : Option Addr) (c1 : Nat) (l1 : List Sp) (a1 : Int) (w : World) (hr0 : Kd.C Kd.string w A0 l0.length l0) (hc0 : l0.length ≤ c0) (hr1 : Kd.C k45 w A1 l1.length l1) (hc1 : l1.length ≤ c1)
    (hz : sizesB l0 = true) (h : validB l0 l1 = false) :
    Calls Try.prog 53 #[.agg #[.slice A0 l0.length c0, .slice A1 l1.length c1], .int .i64 a1] w fun e w' => e = .returned (.int .i64 0) ∧ Below w.heap.size w w' := by
  have R0 := Aside0.mk hr0
  have R1 := Aside0.mk hr1
  have H := Aside0.mk h
  have HZ := Aside0.mk hz
  clear h hr0 hr1 hz
  go_enter Try.func53, Try.ntmps53
  go_wp2_with fail
  refine (pcounted_no _ _ _ _ _ _ _ (Kd.C_below R0.out ?_) hc0 (Kd.C_below R1.out ?_) hc1 HZ.out H.out).mono ?_
  · exact (Below.refl _ _).alloc (Nat.le_refl _) _
  · exact (Below.refl _ _).alloc (Nat.le_refl _) _
  rintro e w1 ⟨bo, rfl, hcb, hbo, hb⟩
  obtain ⟨hc, hf⟩ := bcell hb
  have hz : w.heap.size < w1.heap.size := by have := hb.size; simp at this; omega
  have HB := Aside0.mk (((Below.refl w.heap.size w).alloc (Nat.le_refl _) _).trans (hb.mono (by simp)))
  clear hb
  go_wp2_with fail
  obtain ⟨W, hW⟩ : ∃ W, W = (w1.setCell ⟨w.heap.size, 0, none⟩ (.slice (some ⟨bo, 0, none⟩) 1 1)).setCell ⟨w.heap.size, 1, none⟩ (.slice none 0 0) := ⟨_, rfl⟩
  have BW : Below w.heap.size w W := by rw [hW]; exact (HB.out.setCell (Nat.le_refl _) _).setCell (Nat.le_refl _) _
  have BW' := Aside0.mk BW
  rw [← hW]
  clear hW BW
  have hnil : Kd.C k45 W none ([] : List Sp).length [] := ⟨rfl, Nat.zero_le _, fun h => absurd h (Nat.lt_irrefl 0)⟩
  refine (bsearch_calls 60 (enters_of Try.func60 (by kernel_rfl) rfl) (cmpB a1) none 0 [] a1 0 W hnil (Nat.le_refl _) (Nat.zero_le _) (Nat.le_refl _) (fun h hh => absurd hh (Nat.not_lt_zero _)) (fun a b c W' _ => pget1_calls a1 a b c W')).mono ?_
  rintro e w2 ⟨rfl, hb2⟩
  have B2 := Aside0.mk (BW'.out.trans (hb2.mono BW'.out.size))
  clear hb2 hnil
  go_wp2
  go_ret
  exact ⟨rfl, B2.out⟩
theorem property_Get.calls (A0_0 : Option Addr) (c0_0 : Nat) (l0_0 : List ByteArray) (A0_1 : Option Addr) (c0_1 : Nat) (l0_1 : List Sp) (a1 : Int) (r : Int) (w : World) (hr0_0 : Kd.C Kd.string w A0_0 l0_0.length l0_0) (hc0_0 : l0_0.length ≤ c0_0) (hr0_1 : Kd.C k45 w A0_1 l0_1.length l0_1) (hc0_1 : l0_1.length ≤ c0_1) (h : property_Get.f l0_0 l0_1 a1 = some r) :
    Calls Try.prog 53 #[.agg #[.slice A0_0 l0_0.length c0_0, .slice A0_1 l0_1.length c0_1], .int .i64 a1] w fun e w' => e = .returned (.int .i64 r) ∧ Below w.heap.size w w' := by
  unfold property_Get.f at h
  by_cases hz : sizesB l0_0 = true
  case neg => rw [if_neg hz] at h; cases h
  rw [if_pos hz] at h
  obtain rfl := Option.some.inj h
  cases hv : validB l0_0 l0_1
  · have e : getOf l0_0 l0_1 a1 = 0 := by unfold getOf; rw [hv]; rfl
    rw [e]; exact pget_no _ _ _ _ _ _ _ _ hr0_0 hc0_0 hr0_1 hc0_1 hz hv
  · have e : getOf l0_0 l0_1 a1 = getB l0_1 a1 := by unfold getOf; rw [hv]; rfl
    rw [e]; exact pget_yes _ _ _ _ _ _ _ _ hr0_0 hc0_0 hr0_1 hc0_1 hz hv

/-! ### property_Name: function 45 -/
def property_Name.f (l0_0 : List ByteArray) (l0_1 : List Sp) (a1 : Int) : Option ByteArray := if sizesB l0_0 = true then some (nameOf l0_0 l0_1 a1) else none
set_option maxHeartbeats 800000 in
set_option maxRecDepth 100000 in
theorem pname_yes (A0 : Option Addr) (c0 : Nat) (l0 : List ByteArray) (A1 : Option Addr) (c1 : Nat) (l1 : List Sp) (a1 : Int) (w : World) (hr0 : Kd.C Kd.string w A0 l0.length l0) (hc0 : l0.length ≤ c0) (hr1 : Kd.C k45 w A1 l1.length l1) (hc1 : l1.length ≤ c1)
    (hz : sizesB l0 = true) (h : validB l0 l1 = true) :
    Calls Try.prog 45 #[.agg #[.slice A0 l0.length c0, .slice A1 l1.length c1], .int .i64 a1] w fun e w' => e = .returned (.string (l0.getD (getB l1 a1).toNat ByteArray.empty)) ∧ Below w.heap.size w w' := by
  have hbd := get_bd h a1
  have G0 := hbd.1
  have G1 := hbd.2
  obtain ⟨ad, e, x0⟩ := Kd.at_string hr0 (getB l1 a1) hbd.1 hbd.2
  cases e
  have HX := Aside0.mk h
  have HZ := Aside0.mk hz
  have R0 := Aside0.mk hr0
  have R1 := Aside0.mk hr1
  have hg : property_Get.f l0 l1 a1 = some (getB l1 a1) := by unfold property_Get.f getOf; rw [if_pos hz, if_pos h]
  have HG := Aside0.mk hg
  clear h hr0 hr1 hbd hg hz
  go_enter Try.func45, Try.ntmps45
  go_wp2_with fail
  refine (pcounted_yes _ _ _ _ _ _ _ (Kd.C_below R0.out ?_) hc0 (Kd.C_below R1.out ?_) hc1 HZ.out HX.out).mono ?_
  · exact (Below.refl _ _).alloc (Nat.le_refl _) _
  · exact (Below.refl _ _).alloc (Nat.le_refl _) _
  rintro e w1 ⟨rfl, hb⟩
  obtain ⟨hc, hf⟩ := bcell hb
  have hz : w.heap.size < w1.heap.size := by have := hb.size; simp at this; omega
  have HB := Aside0.mk (((Below.refl w.heap.size w).alloc (Nat.le_refl _) _).trans (hb.mono (by simp)))
  clear hb
  go_wp2_with fail
  obtain ⟨W, hW⟩ : ∃ W, W = (w1.setCell ⟨w.heap.size, 0, none⟩ (.slice (some ad) l0.length c0)).setCell ⟨w.heap.size, 1, none⟩ (.slice A1 l1.length c1) := ⟨_, rfl⟩
  have BW : Below w.heap.size w W := by rw [hW]; exact (HB.out.setCell (Nat.le_refl _) _).setCell (Nat.le_refl _) _
  have b0 : W.cell? ⟨w.heap.size, 0, none⟩ = some (.slice (some ad) l0.length c0) := by rw [hW]; simp [go_sem, hc, hz]
  have b1 : W.cell? ⟨w.heap.size, 1, none⟩ = some (.slice A1 l1.length c1) := by rw [hW]; simp [go_sem, hc, hz]
  have e0 : W.cell? (ad.add (getB l1 a1).toNat) = some (.string (rdOf ByteArray.empty l0 (getB l1 a1))) := pw_cell_below BW x0
  have RW0 := Aside0.mk (Kd.C_below R0.out BW)
  have RW1 := Aside0.mk (Kd.C_below R1.out BW)
  have BW' := Aside0.mk BW
  rw [← hW]
  clear hW x0 BW R0 R1 hc hf hz HB
  go_region_held3 (fun w' => w'.cell? ⟨w.heap.size, 0, none⟩ = some (.slice (some ad) l0.length c0) ∧ w'.cell? ⟨w.heap.size, 1, none⟩ = some (.slice A1 l1.length c1) ∧ w'.cell? (ad.add (getB l1 a1).toNat) = some (.string (rdOf ByteArray.empty l0 (getB l1 a1))))
    (first
      | go_keep
      | (go_split_ands; exact ⟨pw_cell_below hb (by assumption), pw_cell_below hb (by assumption), pw_cell_below hb (by assumption)⟩))
    (first
      | (go_at_call 53; refine (property_Get.calls _ _ _ _ _ _ _ (getB l1 a1) _ (by first | exact RW0.out | exact Kd.C_drew RW0.out) hc0 (by first | exact RW1.out | exact Kd.C_drew RW1.out) hc1 HG.out).mono ?_; rintro e w2 ⟨rfl, hb⟩; have hb2 := Aside0.mk (show Below W.heap.size W w2 from (below_drew (Below.refl W.heap.size W)).trans hb)))
  go_wp2
  go_ret
  exact ⟨rfl, BW'.out.trans (hb2.out.mono BW'.out.size)⟩
set_option maxHeartbeats 800000 in
set_option maxRecDepth 100000 in
theorem pname_no (A0 : Option Addr) (c0 : Nat) (l0 : List ByteArray) (A1 : Option Addr) (c1 : Nat) (l1 : List Sp) (a1 : Int) (w : World) (hr0 : Kd.C Kd.string w A0 l0.length l0) (hc0 : l0.length ≤ c0) (hr1 : Kd.C k45 w A1 l1.length l1) (hc1 : l1.length ≤ c1)
    (hz : sizesB l0 = true) (h : validB l0 l1 = false) :
    Calls Try.prog 45 #[.agg #[.slice A0 l0.length c0, .slice A1 l1.length c1], .int .i64 a1] w fun e w' => e = .returned (.string otherS) ∧ Below w.heap.size w w' := by
  have HX := Aside0.mk h
  have HZ := Aside0.mk hz
  have R0 := Aside0.mk hr0
  have R1 := Aside0.mk hr1
  have hg : property_Get.f [otherS] [] a1 = some 0 := by
    unfold property_Get.f
    rw [if_pos (by decide)]
    unfold getOf
    split <;> rfl
  have HG := Aside0.mk hg
  clear h hr0 hr1 hg hz
  go_enter Try.func45, Try.ntmps45
  go_wp2_with fail
  refine (pcounted_no _ _ _ _ _ _ _ (Kd.C_below R0.out ?_) hc0 (Kd.C_below R1.out ?_) hc1 HZ.out HX.out).mono ?_
  · exact (Below.refl _ _).alloc (Nat.le_refl _) _
  · exact (Below.refl _ _).alloc (Nat.le_refl _) _
  rintro e w1 ⟨bo, rfl, hcb, hbo, hb⟩
  obtain ⟨hc, hf⟩ := bcell hb
  have hz : w.heap.size < w1.heap.size := by have := hb.size; simp at this; omega
  have HB := Aside0.mk (((Below.refl w.heap.size w).alloc (Nat.le_refl _) _).trans (hb.mono (by simp)))
  have hne : bo ≠ w.heap.size := by
    rintro rfl
    rw [hc w.heap.size 0 (by simp)] at hcb
    simp at hcb
  clear hb
  go_wp2_with fail
  obtain ⟨W, hW⟩ : ∃ W, W = (w1.setCell ⟨w.heap.size, 0, none⟩ (.slice (some ⟨bo, 0, none⟩) 1 1)).setCell ⟨w.heap.size, 1, none⟩ (.slice none 0 0) := ⟨_, rfl⟩
  have BW : Below w.heap.size w W := by rw [hW]; exact (HB.out.setCell (Nat.le_refl _) _).setCell (Nat.le_refl _) _
  have b0 : W.cell? ⟨w.heap.size, 0, none⟩ = some (.slice (some ⟨bo, 0, none⟩) 1 1) := by rw [hW]; simp [go_sem, hc, hz]
  have b1 : W.cell? ⟨w.heap.size, 1, none⟩ = some (.slice none 0 0) := by rw [hW]; simp [go_sem, hc, hz]
  have e0 : W.cell? ⟨bo, 0, none⟩ = some (.string otherS) := by rw [hW, cell_far (by exact hne), cell_far (by exact hne)]; exact hcb
  have RW0 := Aside0.mk (show Kd.C Kd.string W (some ⟨bo, 0, none⟩) [otherS].length [otherS] from ⟨rfl, by decide, fun _ => ⟨_, rfl, fun j p hj => by
    cases j with
    | zero => cases hj; exact ⟨[.string otherS], rfl, rfl, fun i u hu => by cases i with | zero => cases hu; exact e0 | succ i => cases hu⟩
    | succ j => cases hj⟩⟩)
  have RW1 := Aside0.mk (show Kd.C k45 W none ([] : List Sp).length [] from ⟨rfl, Nat.zero_le _, fun h => absurd h (Nat.lt_irrefl 0)⟩)
  have BW' := Aside0.mk BW
  rw [← hW]
  clear hW BW R0 R1 hc hf hz HB
  go_region_held3 (fun w' => w'.cell? ⟨w.heap.size, 0, none⟩ = some (.slice (some ⟨bo, 0, none⟩) 1 1) ∧ w'.cell? ⟨w.heap.size, 1, none⟩ = some (.slice none 0 0) ∧ w'.cell? ⟨bo, 0, none⟩ = some (.string otherS))
    (first
      | go_keep
      | (go_split_ands; exact ⟨pw_cell_below hb (by assumption), pw_cell_below hb (by assumption), pw_cell_below hb (by assumption)⟩))
    (first
      | (go_at_call 53; refine (property_Get.calls _ 1 [otherS] _ 0 [] _ 0 _ (by first | exact RW0.out | exact Kd.C_drew RW0.out) (Nat.le_refl _) (by first | exact RW1.out | exact Kd.C_drew RW1.out) (Nat.le_refl _) HG.out).mono ?_; rintro e w2 ⟨rfl, hb⟩; have hb2 := Aside0.mk (show Below W.heap.size W w2 from (below_drew (Below.refl W.heap.size W)).trans hb)))
  go_wp2
  go_ret
  exact ⟨rfl, BW'.out.trans (hb2.out.mono BW'.out.size)⟩
theorem property_Name.calls (A0_0 : Option Addr) (c0_0 : Nat) (l0_0 : List ByteArray) (A0_1 : Option Addr) (c0_1 : Nat) (l0_1 : List Sp) (a1 : Int) (r : ByteArray) (w : World) (hr0_0 : Kd.C Kd.string w A0_0 l0_0.length l0_0) (hc0_0 : l0_0.length ≤ c0_0) (hr0_1 : Kd.C k45 w A0_1 l0_1.length l0_1) (hc0_1 : l0_1.length ≤ c0_1) (h : property_Name.f l0_0 l0_1 a1 = some r) :
    Calls Try.prog 45 #[.agg #[.slice A0_0 l0_0.length c0_0, .slice A0_1 l0_1.length c0_1], .int .i64 a1] w fun e w' => e = .returned (.string r) ∧ Below w.heap.size w w' := by
  unfold property_Name.f at h
  by_cases hz : sizesB l0_0 = true
  case neg => rw [if_neg hz] at h; cases h
  rw [if_pos hz] at h
  obtain rfl := Option.some.inj h
  cases hv : validB l0_0 l0_1
  · have e : nameOf l0_0 l0_1 a1 = otherS := by unfold nameOf; rw [hv]; rfl
    rw [e]; exact pname_no _ _ _ _ _ _ _ _ hr0_0 hc0_0 hr0_1 hc0_1 hz hv
  · have e : nameOf l0_0 l0_1 a1 = l0_0.getD (getB l0_1 a1).toNat ByteArray.empty := by unfold nameOf; rw [hv]; rfl
    rw [e]; exact pname_yes _ _ _ _ _ _ _ _ hr0_0 hc0_0 hr0_1 hc0_1 hz hv

/-! ### prelude scr -/
def commonS : ByteArray := ⟨#[67, 111, 109, 109, 111, 110]⟩
def inherS : ByteArray := ⟨#[73, 110, 104, 101, 114, 105, 116, 101, 100]⟩
def noneS : ByteArray := ⟨#[]⟩
def realS (s : ByteArray) : ByteArray := if s = commonS ∨ s = inherS ∨ s = otherS then noneS else s
def realOf (names : List ByteArray) (spans : List Sp) (c : Int) : ByteArray := realS (nameOf names spans c)
def reals (names : List ByteArray) (spans : List Sp) (text : List Int) : List ByteArray := text.map (realOf names spans)
def scrPre (names : List ByteArray) (text : List Int) : Bool := sizesB names && intsB text && decide (text.length ≤ 1000000)
theorem nameOf_size {names : List ByteArray} (h : sizesB names = true) (spans : List Sp) (c : Int) : (nameOf names spans c).size ≤ 9223372036854775807 := by
  unfold nameOf; split
  · exact sizes_at h _
  · decide
theorem commonS_l : commonS.toList = [67, 111, 109, 109, 111, 110] := by rw [ByteArray.toList_eq]; rfl
theorem inherS_l : inherS.toList = [73, 110, 104, 101, 114, 105, 116, 101, 100] := by rw [ByteArray.toList_eq]; rfl
theorem otherS_l : otherS.toList = [79, 116, 104, 101, 114] := by rw [ByteArray.toList_eq]; rfl
def fillB : ByteArray → List ByteArray → List ByteArray
  | _, [] => []
  | last, s :: r => (if s = noneS then last else s) :: fillB (if s = noneS then last else s) r
def firstB : List ByteArray → ByteArray
  | [] => noneS
  | s :: r => if s = noneS then firstB r else s
def resolvedB (ls : List ByteArray) : List ByteArray := fillB (firstB ls) ls
def notNone (s : ByteArray) : Bool := !decide (s = noneS)
theorem noneS_l : noneS.toList = [] := by rw [ByteArray.toList_eq]; rfl
theorem noneS_iff (s : ByteArray) : s.toList = [] ↔ s = noneS := by rw [← bs_eq, noneS_l]
theorem idx_first : ∀ (l : List ByteArray) (i : Nat), (idxFrom notNone l i = -1 ∧ firstB l = noneS) ∨ ∃ j, j < l.length ∧ idxFrom notNone l i = ((i + j : Nat) : Int) ∧ firstB l = l.getD j ByteArray.empty := by
  intro l
  induction l with
  | nil => intro i; exact .inl ⟨rfl, rfl⟩
  | cons s r ih =>
    intro i
    by_cases h : s = noneS
    · have hn : notNone s = false := by unfold notNone; rw [decide_eq_true h]; rfl
      have e1 : idxFrom notNone (s :: r) i = idxFrom notNone r (i + 1) := by rw [idxFrom, if_neg (by rw [hn]; decide)]
      have e2 : firstB (s :: r) = firstB r := by rw [firstB, if_pos h]
      rw [e1, e2]
      rcases ih (i + 1) with h1 | ⟨j, h1, h2, h3⟩
      · exact .inl h1
      · exact .inr ⟨j + 1, by rw [List.length_cons]; omega, by rw [h2]; congr 1; omega, by rw [h3, List.getD_cons_succ]⟩
    · have hn : notNone s = true := by unfold notNone; rw [decide_eq_false h]; rfl
      exact .inr ⟨0, by rw [List.length_cons]; omega, by rw [idxFrom, if_pos hn]; rfl, by rw [firstB, if_neg h, List.getD_cons_zero]⟩

end Go.Proofs.Ytneelkaelcilfaa.PA

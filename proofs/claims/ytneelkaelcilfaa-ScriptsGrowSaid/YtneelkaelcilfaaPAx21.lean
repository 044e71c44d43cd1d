-- Laid by hprint.py (this session's program, over the kit's print) for the seat Ytneelkaelcilfaa. Lean checks it.
import Derived.Test.YtneelkaelcilfaaPAx0
import Derived.Test.YtneelkaelcilfaaPAx2
import Derived.Test.YtneelkaelcilfaaPAx5
import Derived.Test.YtneelkaelcilfaaPAx6
import Derived.Test.YtneelkaelcilfaaPAx7
import Derived.Test.YtneelkaelcilfaaPAx8
import Derived.Test.YtneelkaelcilfaaPAx9
import Derived.Test.YtneelkaelcilfaaPAx10
import Derived.Test.YtneelkaelcilfaaPAx12
namespace Go.Proofs.Ytneelkaelcilfaa.PA
open Go.RowKit Go.Proofs.YtneelkaelcilfaaW.PrintWords Go.Proofs.YtneelkaelcilfaaW.PrintLast Go.Proofs.YtneelkaelcilfaaW.PrintMore
attribute [local go_sem] max2_int min2_int max_two min_two max_three min_three max_four min_four   -- for this text's walks alone
set_option linter.unusedVariables false
set_option linter.unusedSimpArgs false

/-! ### unicodetextref40_Inside: function 27 -/
def unicodetextref40_Inside.l0 : Nat → List ByteArray → List ByteArray → Int → Option (Bool)
  | 0, _, _, _ => none
  | k + 1, x0, x1, x5 => if x5 < (x0.length : Int) then (if 0 ≤ x5 then ((unicodetextref40_Has.f k x1 (rdOf ByteArray.empty x0 x5)).bind fun t396 => (if t396 = true then (unicodetextref40_Inside.l0 k x0 x1 (wrap64 (x5 + 1))) else (some false))) else (none)) else (some true)
def unicodetextref40_Inside.f (k : Nat) (l0 : List ByteArray) (l1 : List ByteArray) : Option (Bool) := unicodetextref40_Inside.l0 k l0 l1 0
theorem unicodetextref40_Inside.mono_l : ∀ k, (∀ y0 y1 y2, LeO (unicodetextref40_Inside.l0 k y0 y1 y2) (unicodetextref40_Inside.l0 (k + 1) y0 y1 y2))
  | 0 => fun _ _ _ r h => by simp [unicodetextref40_Inside.l0] at h
  | k + 1 => by
    have ih0 := unicodetextref40_Inside.mono_l k
    · intro y0 y1 y2
      unfold unicodetextref40_Inside.l0
      repeat' first
      | (with_reducible exact ih0 _ _ _)
      | (with_reducible exact unicodetextref40_Has.mono _ _ _)
      | (with_reducible exact LeO.refl _)
      | (with_reducible exact LeO.none _)
      | (with_reducible refine LeO.ite ?_ ?_)
      | (with_reducible refine LeO.bind ?_ (fun _ => ?_))
      | exact ih0 _ _ _
      | exact unicodetextref40_Has.mono _ _ _
      | exact LeO.none _
      | refine LeO.ite ?_ ?_
      | refine LeO.bind ?_ (fun _ => ?_)
theorem unicodetextref40_Inside.mono : ∀ a0 a1 k, LeO (unicodetextref40_Inside.f k a0 a1) (unicodetextref40_Inside.f (k + 1) a0 a1) := by
  intro a0 a1 k
  have ih0 := unicodetextref40_Inside.mono_l k
  unfold unicodetextref40_Inside.f
  repeat' first
      | (with_reducible exact ih0 _ _ _)
      | (with_reducible exact unicodetextref40_Has.mono _ _ _)
      | (with_reducible exact LeO.refl _)
      | (with_reducible exact LeO.none _)
      | (with_reducible refine LeO.ite ?_ ?_)
      | (with_reducible refine LeO.bind ?_ (fun _ => ?_))
      | exact ih0 _ _ _
      | exact unicodetextref40_Has.mono _ _ _
      | exact LeO.none _
      | refine LeO.ite ?_ ?_
      | refine LeO.bind ?_ (fun _ => ?_)
set_option maxHeartbeats 8000000 in
set_option maxRecDepth 100000 in
theorem unicodetextref40_Inside.calls (k : Nat) (A0 : Option Addr) (c0 : Nat) (l0 : List ByteArray) (A1 : Option Addr) (c1 : Nat) (l1 : List ByteArray) (r : Bool) (w : World) (hr0 : Kd.C Kd.string w A0 l0.length l0) (hc0 : l0.length ≤ c0) (hr1 : Kd.C Kd.string w A1 l1.length l1) (hc1 : l1.length ≤ c1) (h : unicodetextref40_Inside.f k l0 l1 = some r) :
    Calls Try.prog 27 #[.slice A0 l0.length c0, .slice A1 l1.length c1] w fun e w' => e = .returned (.bool r) ∧ Drawn0 w w' := by
  have HR0 := Aside0.mk hr0
  have HC0 := Aside0.mk hc0
  clear hr0 hc0
  have HR1 := Aside0.mk hr1
  have HC1 := Aside0.mk hc1
  clear hr1 hc1
  have H : (unicodetextref40_Inside.l0 k l0 l1 0) = some r := h
  clear h
  have H' := Aside0.mk H
  clear H
  go_enter Try.func27, Try.ntmps27
  go_wp2
  go_loopg [5] k (fun kq v5 w' => ∃ (x5_1 : Int), v5 = .int .i64 x5_1 ∧ Aside0 (unicodetextref40_Inside.l0 kq l0 l1 x5_1 = some r) ∧ Aside0 (kq ≤ k) ∧ Drawn0 w w')
  case atStart => exact ⟨(0), (by first | rfl | (simp; done) | (simp [*]; done)), H', ⟨Nat.le_refl _⟩, by repeat (first | exact Drawn0.refl _ | apply Drawn0.step)⟩
  case round =>
    clear H'
    try clear c1
    try clear c2
    try clear p2
    obtain ⟨x5_1, rfl, HA, HK1, ⟨m1, rfl⟩⟩ := hrel
    cases gk with
    | zero => exact absurd HA.out (by simp [unicodetextref40_Inside.l0])
    | succ k1 =>
      have H := HA.out
      clear HA
      simp only [unicodetextref40_Inside.l0] at H
      by_cases c3 : x5_1 < (l0.length : Int)
      · rw [if_pos c3] at H
        have c3b0 : decide (x5_1 < (l0.length : Int)) = true := decide_eq_true c3
        clear c3
        by_cases c4 : 0 ≤ x5_1
        · rw [if_pos c4] at H
          have c4b0 : decide (0 ≤ x5_1) = true := decide_eq_true c4
          clear c4
          replace H := Option.bind_eq_some_iff.mp H
          obtain ⟨t396, A50, H⟩ := H
          replace H : (if t396 = true then (unicodetextref40_Inside.l0 k1 l0 l1 (wrap64 (x5_1 + 1))) else (some false)) = some r := H
          have A5 := Aside0.mk A50
          clear A50
          by_cases c6 : t396 = true
          · subst c6
            have H1 : (unicodetextref40_Inside.l0 k1 l0 l1 (wrap64 (x5_1 + 1))) = some r := by rw [if_pos rfl] at H; exact H
            clear H
            have H := H1
            clear H1
            have H' := Aside0.mk H
            clear H
            have p395 : 0 ≤ (x5_1 : Int) := of_decide_eq_true (by first | (with_reducible assumption) | assumption)
            have q395 : x5_1 < (l0.length : Int) := of_decide_eq_true (by first | (with_reducible assumption) | assumption)
            obtain ⟨ad395, e395, hx395_0⟩ := Kd.at_string HR0.out x5_1 p395 q395
            cases e395
            replace p395 := eq_true p395
            replace q395 := eq_true q395
            go_wp2_with (first | ((with_reducible refine gate_callee (f := 26) rfl ?_); refine goesL_ (some 17) rfl rfl Try.func26 (by kernel_rfl) rfl #[.slice A1 l1.length c1, .string (rdOf ByteArray.empty l0 x5_1)] rfl (by (try simp only [List.map_toArray, List.map_cons, List.map_nil]); first | done | rfl | (simp only [List.length_drop, List.length_take]; rfl)) ?_; (with_reducible refine (unicodetextref40_Has.calls k1 _ _ l1 (rdOf ByteArray.empty l0 x5_1) true _ ?side1 ?side2 A5.out).mono ?_); (case side1 => repeat (first | exact HR1.out | (with_reducible refine Kd.C_alloc ?_ _) | (with_reducible refine Kd.C_drewN ?_ _) | (with_reducible refine Kd.C_drew ?_))); (case side2 => exact HC1.out); rintro e w' ⟨rfl, ⟨nd, rfl⟩⟩; refine ⟨_, rfl, ?_⟩))
            go_roundg k1
            case measure => have := HK1.out; omega
            case rel => exact ⟨(wrap64 (x5_1 + 1)), (by first | rfl | (simp; done) | (simp [*]; done)), H', ⟨by have := HK1.out; omega⟩, by repeat (first | exact Drawn0.refl _ | apply Drawn0.step)⟩
          · replace c6 := Bool.eq_false_iff.mpr c6
            subst c6
            have H1 : (some false) = some r := by rw [if_neg (show ¬ (false = true) by decide)] at H; exact H
            clear H
            have H := H1
            clear H1
            obtain rfl := Option.some.inj H
            have p395 : 0 ≤ (x5_1 : Int) := of_decide_eq_true (by first | (with_reducible assumption) | assumption)
            have q395 : x5_1 < (l0.length : Int) := of_decide_eq_true (by first | (with_reducible assumption) | assumption)
            obtain ⟨ad395, e395, hx395_0⟩ := Kd.at_string HR0.out x5_1 p395 q395
            cases e395
            replace p395 := eq_true p395
            replace q395 := eq_true q395
            go_wp2_with (first | ((with_reducible refine gate_callee (f := 26) rfl ?_); refine goesL_ (some 17) rfl rfl Try.func26 (by kernel_rfl) rfl #[.slice A1 l1.length c1, .string (rdOf ByteArray.empty l0 x5_1)] rfl (by (try simp only [List.map_toArray, List.map_cons, List.map_nil]); first | done | rfl | (simp only [List.length_drop, List.length_take]; rfl)) ?_; (with_reducible refine (unicodetextref40_Has.calls k1 _ _ l1 (rdOf ByteArray.empty l0 x5_1) false _ ?side1 ?side2 A5.out).mono ?_); (case side1 => repeat (first | exact HR1.out | (with_reducible refine Kd.C_alloc ?_ _) | (with_reducible refine Kd.C_drewN ?_ _) | (with_reducible refine Kd.C_drew ?_))); (case side2 => exact HC1.out); rintro e w' ⟨rfl, ⟨nd, rfl⟩⟩; refine ⟨_, rfl, ?_⟩))
            go_ret
            exact ⟨by first | rfl | (simp; done) | (simp [*]; done), by repeat (first | exact Drawn0.refl _ | apply Drawn0.step)⟩
        · rw [if_neg c4] at H
          exact absurd H (by simp)
      · rw [if_neg c3] at H
        have c3b0 : decide (x5_1 < (l0.length : Int)) = false := decide_eq_false c3
        clear c3
        obtain rfl := Option.some.inj H
        go_wp2
        go_ret
        exact ⟨by first | rfl | (simp; done) | (simp [*]; done), by repeat (first | exact Drawn0.refl _ | apply Drawn0.step)⟩

/-! ### unicodetextref01_Valid: function 40 -/
def unicodetextref01_Valid.f (a0 : Int) : Option (Bool) := if a0 ≥ 0 then (some (decide (a0 ≤ 1114111))) else (some false)
set_option maxHeartbeats 8000000 in
set_option maxRecDepth 100000 in
theorem unicodetextref01_Valid.calls (a0 : Int) (r : Bool) (w : World) (h : unicodetextref01_Valid.f a0 = some r) :
    Calls Try.prog 40 #[.int .i64 a0] w fun e w' => e = .returned (.bool r) ∧ Drawn0 w w' := by
  have H : (if a0 ≥ 0 then (some (decide (a0 ≤ 1114111))) else (some false)) = some r := h
  clear h
  by_cases c2 : a0 ≥ 0
  · rw [if_pos c2] at H
    have c2b0 : decide (0 ≤ a0) = true := decide_eq_true c2
    clear c2
    obtain rfl := Option.some.inj H
    go_enter Try.func40, Try.ntmps40
    go_wp2
    go_ret
    exact ⟨by first | rfl | (simp; done) | (simp [*]; done), by repeat (first | exact Drawn0.refl _ | apply Drawn0.step)⟩
  · rw [if_neg c2] at H
    have c2b0 : decide (0 ≤ a0) = false := decide_eq_false c2
    clear c2
    obtain rfl := Option.some.inj H
    go_enter Try.func40, Try.ntmps40
    go_wp2
    go_ret
    exact ⟨by first | rfl | (simp; done) | (simp [*]; done), by repeat (first | exact Drawn0.refl _ | apply Drawn0.step)⟩

/-! ### unicodetextref40_Level: function 23 -/
mutual
def unicodetextref40_Level.l0 : Nat → List (List ByteArray) → List Int → Bool → Int → List ByteArray → List (S45) → Option (Int)
  | 0, _, _, _, _, _, _ => none
  | k + 1, x1, x2, x7, x8, x398000, x398001 => if x8 < (x2.length : Int) then (if x7 = true then (if 0 ≤ x8 then ((unicodetextref01_Valid.f (rd x2 x8)).bind fun t399 => (if t399 = true then (unicodetextref40_Level.l0 k x1 x2 (decide ((rd x2 x8) < 128)) (wrap64 (x8 + 1)) x398000 x398001) else (unicodetextref40_Level.l0 k x1 x2 false (wrap64 (x8 + 1)) x398000 x398001))) else (none)) else (unicodetextref40_Level.l0 k x1 x2 false (wrap64 (x8 + 1)) x398000 x398001)) else (if x7 = true then (some 1) else ((unicodetextref40_Of.f k x398000 x398001 x2).bind fun t401 => (if (t401.length : Int) < 2 then (some 2) else (unicodetextref40_Level.l1 k x1 t401 0))))
def unicodetextref40_Level.l1 : Nat → List (List ByteArray) → List ByteArray → Int → Option (Int)
  | 0, _, _, _ => none
  | k + 1, x1, x9, x10 => if x10 < (x1.length : Int) then (if 0 ≤ x10 then ((unicodetextref40_Inside.f k x9 (rd_L5 x1 x10)).bind fun t405 => (if t405 = true then (some 3) else (unicodetextref40_Level.l1 k x1 x9 (wrap64 (x10 + 1))))) else (none)) else (some 4)
end
def unicodetextref40_Level.f (k : Nat) (l0_0 : List ByteArray) (l0_1 : List (S45)) (l1 : List (List ByteArray)) (l2 : List Int) : Option (Int) := unicodetextref40_Level.l0 k l1 l2 true 0 l0_0 l0_1
theorem unicodetextref40_Level.mono_l : ∀ k, (∀ y0 y1 y2 y3 y4 y5, LeO (unicodetextref40_Level.l0 k y0 y1 y2 y3 y4 y5) (unicodetextref40_Level.l0 (k + 1) y0 y1 y2 y3 y4 y5)) ∧ (∀ y0 y1 y2, LeO (unicodetextref40_Level.l1 k y0 y1 y2) (unicodetextref40_Level.l1 (k + 1) y0 y1 y2))
  | 0 => ⟨fun _ _ _ _ _ _ r h => by simp [unicodetextref40_Level.l0] at h, fun _ _ _ r h => by simp [unicodetextref40_Level.l1] at h⟩
  | k + 1 => by
    obtain ⟨ih0, ih1⟩ := unicodetextref40_Level.mono_l k
    refine ⟨?_, ?_⟩
    · intro y0 y1 y2 y3 y4 y5
      unfold unicodetextref40_Level.l0
      repeat' first
      | (with_reducible exact ih0 _ _ _ _ _ _)
      | (with_reducible exact ih1 _ _ _)
      | (with_reducible exact unicodetextref40_Inside.mono _ _ _)
      | (with_reducible exact unicodetextref40_Of.mono _ _ _ _)
      | (with_reducible exact LeO.refl _)
      | (with_reducible exact LeO.none _)
      | (with_reducible refine LeO.ite ?_ ?_)
      | (with_reducible refine LeO.bind ?_ (fun _ => ?_))
      | exact ih0 _ _ _ _ _ _
      | exact ih1 _ _ _
      | exact unicodetextref40_Inside.mono _ _ _
      | exact unicodetextref40_Of.mono _ _ _ _
      | exact LeO.none _
      | refine LeO.ite ?_ ?_
      | refine LeO.bind ?_ (fun _ => ?_)
    · intro y0 y1 y2
      unfold unicodetextref40_Level.l1
      repeat' first
      | (with_reducible exact ih0 _ _ _ _ _ _)
      | (with_reducible exact ih1 _ _ _)
      | (with_reducible exact unicodetextref40_Inside.mono _ _ _)
      | (with_reducible exact unicodetextref40_Of.mono _ _ _ _)
      | (with_reducible exact LeO.refl _)
      | (with_reducible exact LeO.none _)
      | (with_reducible refine LeO.ite ?_ ?_)
      | (with_reducible refine LeO.bind ?_ (fun _ => ?_))
      | exact ih0 _ _ _ _ _ _
      | exact ih1 _ _ _
      | exact unicodetextref40_Inside.mono _ _ _
      | exact unicodetextref40_Of.mono _ _ _ _
      | exact LeO.none _
      | refine LeO.ite ?_ ?_
      | refine LeO.bind ?_ (fun _ => ?_)
theorem unicodetextref40_Level.mono : ∀ a0 a1 a2 a3 k, LeO (unicodetextref40_Level.f k a0 a1 a2 a3) (unicodetextref40_Level.f (k + 1) a0 a1 a2 a3) := by
  intro a0 a1 a2 a3 k
  obtain ⟨ih0, ih1⟩ := unicodetextref40_Level.mono_l k
  unfold unicodetextref40_Level.f
  repeat' first
      | (with_reducible exact ih0 _ _ _ _ _ _)
      | (with_reducible exact ih1 _ _ _)
      | (with_reducible exact unicodetextref40_Inside.mono _ _ _)
      | (with_reducible exact unicodetextref40_Of.mono _ _ _ _)
      | (with_reducible exact LeO.refl _)
      | (with_reducible exact LeO.none _)
      | (with_reducible refine LeO.ite ?_ ?_)
      | (with_reducible refine LeO.bind ?_ (fun _ => ?_))
      | exact ih0 _ _ _ _ _ _
      | exact ih1 _ _ _
      | exact unicodetextref40_Inside.mono _ _ _
      | exact unicodetextref40_Of.mono _ _ _ _
      | exact LeO.none _
      | refine LeO.ite ?_ ?_
      | refine LeO.bind ?_ (fun _ => ?_)
set_option maxHeartbeats 8000000 in
set_option maxRecDepth 100000 in
theorem unicodetextref40_Level.calls (k : Nat) (A0_0 : Option Addr) (c0_0 : Nat) (l0_0 : List ByteArray) (A0_1 : Option Addr) (c0_1 : Nat) (l0_1 : List (S45)) (A1 : Option Addr) (c1 : Nat) (l1 : List (List ByteArray)) (A2 : Option Addr) (c2 : Nat) (l2 : List Int) (r : Int) (w : World) (hr0_0 : Kd.C Kd.string w A0_0 l0_0.length l0_0) (hc0_0 : l0_0.length ≤ c0_0) (hr0_1 : Kd.C k45 w A0_1 l0_1.length l0_1) (hc0_1 : l0_1.length ≤ c0_1) (hr1 : Kd.C (Kd.slice 9 Kd.string) w A1 l1.length l1) (hc1 : l1.length ≤ c1) (hr2 : Kd.C (Kd.int .i64) w A2 l2.length l2) (hc2 : l2.length ≤ c2) (h : unicodetextref40_Level.f k l0_0 l0_1 l1 l2 = some r) :
    Calls Try.prog 23 #[.agg #[.slice A0_0 l0_0.length c0_0, .slice A0_1 l0_1.length c0_1], .slice A1 l1.length c1, .slice A2 l2.length c2] w fun e w' => e = .returned (.int .i64 r) ∧ Below w.heap.size w w' := by
  have hu25 := Try.underlying25
  have HR0_0 := Aside0.mk hr0_0
  have HC0_0 := Aside0.mk hc0_0
  clear hr0_0 hc0_0
  have HR0_1 := Aside0.mk hr0_1
  have HC0_1 := Aside0.mk hc0_1
  clear hr0_1 hc0_1
  have HR1 := Aside0.mk hr1
  have HC1 := Aside0.mk hc1
  clear hr1 hc1
  have HR2 := Aside0.mk hr2
  have HC2 := Aside0.mk hc2
  clear hr2 hc2
  have HB := Aside0.mk (Below.refl w.heap.size w)
  have H : (unicodetextref40_Level.l0 k l1 l2 true 0 l0_0 l0_1) = some r := h
  clear h
  have H' := Aside0.mk H
  clear H
  go_enter Try.func23, Try.ntmps23
  go_wp2_with (first | ((with_reducible refine gate_dst (N := 3) rfl ?_); refine box_event ?hg (N := 3) ?hd (cs := #[.slice A0_0 l0_0.length c0_0, .slice A0_1 l0_1.length c0_1]) (t := 25) ?hr ?_; (case hd => rfl); (case hg => rfl); (case hr => first | (go_simp; done) | (go_simp; rfl)); intro gb397 hg w4 hbox hb; have n0_ := Aside0.mk (below_step (by repeat (first | (with_reducible first | exact HB.out | apply below_alloc | apply pw_below_drewN | apply below_drew1) | exact HB.out)) hb); have n1_ := Aside0.mk (hbox); have n2_ := Aside0.mk ((by rw [hg]; exact (below_size (by repeat (first | (with_reducible first | exact HB.out | apply below_alloc | apply pw_below_drewN | apply below_drew1) | exact HB.out))) : w.heap.size ≤ gb397)); have n3_ := Aside0.mk ((by rw [hg]; exact (below_size (by repeat (first | (with_reducible first | exact HB.out | apply below_alloc | apply pw_below_drewN | apply below_drew1) | exact HB.out))) : w.heap.size ≤ gb397)); clear HB; have HB := n0_; have BK397 := n1_; have GW397 := n2_; have GE397 := n3_; clear n0_ n1_ n2_ n3_; clear hb hbox hg))
  go_loopg [7, 8] k (fun kq v7 v8 w' => ∃ (x7_1 : Bool) (x8_1 : Int), v7 = .bool x7_1 ∧ v8 = .int .i64 x8_1 ∧ Aside0 (unicodetextref40_Level.l0 kq l1 l2 x7_1 x8_1 l0_0 l0_1 = some r) ∧ Aside0 (kq ≤ k) ∧ Aside0 (w'.heap[gb397]? = some (.cells #[(.slice A0_0 l0_0.length c0_0), (.slice A0_1 l0_1.length c0_1)] 25 (0, 0))) ∧ Aside0 (Below w.heap.size w w'))
  case atStart => exact ⟨(true), (0), (by first | rfl | (simp; done) | (simp [*]; done)), (by first | rfl | (simp; done) | (simp [*]; done)), H', ⟨Nat.le_refl _⟩, ⟨by (with_reducible repeat (first | refine blk_drewN ?_ _ | refine blk_drew ?_ | refine blk_alloc ?_ _)); exact BK397.out⟩, ⟨by repeat (first | (with_reducible first | exact HB.out | apply below_alloc | apply pw_below_drewN | apply below_drew1 | refine below_set ?_ GE397.out) | exact HB.out)⟩⟩
  case round =>
    clear H'
    try clear c1
    try clear c2
    try clear p2
    obtain ⟨x7_1, x8_1, rfl, rfl, HA, HK1, BK397, HB⟩ := hrel
    cases gk with
    | zero => exact absurd HA.out (by simp [unicodetextref40_Level.l0])
    | succ k1 =>
      have H := HA.out
      clear HA
      simp only [unicodetextref40_Level.l0] at H
      by_cases c5 : x8_1 < (l2.length : Int)
      · rw [if_pos c5] at H
        have c5b0 : decide (x8_1 < (l2.length : Int)) = true := decide_eq_true c5
        clear c5
        by_cases c6 : x7_1 = true
        · subst c6
          have H1 : (if 0 ≤ x8_1 then ((unicodetextref01_Valid.f (rd l2 x8_1)).bind fun t399 => (if t399 = true then (unicodetextref40_Level.l0 k1 l1 l2 (decide ((rd l2 x8_1) < 128)) (wrap64 (x8_1 + 1)) l0_0 l0_1) else (unicodetextref40_Level.l0 k1 l1 l2 false (wrap64 (x8_1 + 1)) l0_0 l0_1))) else (none)) = some r := by rw [if_pos rfl] at H; exact H
          clear H
          have H := H1
          clear H1
          by_cases c7 : 0 ≤ x8_1
          · rw [if_pos c7] at H
            have c7b0 : decide (0 ≤ x8_1) = true := decide_eq_true c7
            clear c7
            replace H := Option.bind_eq_some_iff.mp H
            obtain ⟨t399, A80, H⟩ := H
            replace H : (if t399 = true then (unicodetextref40_Level.l0 k1 l1 l2 (decide ((rd l2 x8_1) < 128)) (wrap64 (x8_1 + 1)) l0_0 l0_1) else (unicodetextref40_Level.l0 k1 l1 l2 false (wrap64 (x8_1 + 1)) l0_0 l0_1)) = some r := H
            have A8 := Aside0.mk A80
            clear A80
            by_cases c9 : t399 = true
            · subst c9
              have H1 : (unicodetextref40_Level.l0 k1 l1 l2 (decide ((rd l2 x8_1) < 128)) (wrap64 (x8_1 + 1)) l0_0 l0_1) = some r := by rw [if_pos rfl] at H; exact H
              clear H
              have H := H1
              clear H1
              have H' := Aside0.mk H
              clear H
              have p398 : 0 ≤ (x8_1 : Int) := of_decide_eq_true (by first | (with_reducible assumption) | assumption)
              have q398 : x8_1 < (l2.length : Int) := of_decide_eq_true (by first | (with_reducible assumption) | assumption)
              obtain ⟨ad398, e398, hx398_0⟩ := Kd.at_int HR2.out x8_1 p398 q398
              cases e398
              replace hx398_0 := (HB.out.cell (World.block_lt_of_cell? w _ hx398_0)).trans hx398_0
              replace p398 := eq_true p398
              replace q398 := eq_true q398
              go_wp2_with (first | (go_at_call 40; (with_reducible refine (unicodetextref01_Valid.calls (rd l2 x8_1) true _ A8.out).mono ?_); rintro e w' ⟨rfl, ⟨nd, rfl⟩⟩; have p400 : 0 ≤ (x8_1 : Int) := of_decide_eq_true (by first | (with_reducible assumption) | assumption); have q400 : x8_1 < (l2.length : Int) := of_decide_eq_true (by first | (with_reducible assumption) | assumption); obtain ⟨ad400, e400, hx400_0⟩ := Kd.at_int HR2.out x8_1 p400 q400; obtain rfl : ad398 = ad400 := (by injection e400); replace hx400_0 := (HB.out.cell (World.block_lt_of_cell? w _ hx400_0)).trans hx400_0; replace p400 := eq_true p400; replace q400 := eq_true q400))
              go_roundg k1
              case measure => have := HK1.out; omega
              case rel => exact ⟨(decide ((rd l2 x8_1) < 128)), (wrap64 (x8_1 + 1)), (by first | rfl | (simp; done) | (simp [*]; done)), (by first | rfl | (simp; done) | (simp [*]; done)), H', ⟨by have := HK1.out; omega⟩, ⟨by (with_reducible repeat (first | refine blk_drewN ?_ _ | refine blk_drew ?_ | refine blk_alloc ?_ _)); exact BK397.out⟩, ⟨by repeat (first | (with_reducible first | exact HB.out | apply below_alloc | apply pw_below_drewN | apply below_drew1 | refine below_set ?_ GE397.out) | exact HB.out)⟩⟩
            · replace c9 := Bool.eq_false_iff.mpr c9
              subst c9
              have H1 : (unicodetextref40_Level.l0 k1 l1 l2 false (wrap64 (x8_1 + 1)) l0_0 l0_1) = some r := by rw [if_neg (show ¬ (false = true) by decide)] at H; exact H
              clear H
              have H := H1
              clear H1
              have H' := Aside0.mk H
              clear H
              have p398 : 0 ≤ (x8_1 : Int) := of_decide_eq_true (by first | (with_reducible assumption) | assumption)
              have q398 : x8_1 < (l2.length : Int) := of_decide_eq_true (by first | (with_reducible assumption) | assumption)
              obtain ⟨ad398, e398, hx398_0⟩ := Kd.at_int HR2.out x8_1 p398 q398
              cases e398
              replace hx398_0 := (HB.out.cell (World.block_lt_of_cell? w _ hx398_0)).trans hx398_0
              replace p398 := eq_true p398
              replace q398 := eq_true q398
              go_wp2_with (first | (go_at_call 40; (with_reducible refine (unicodetextref01_Valid.calls (rd l2 x8_1) false _ A8.out).mono ?_); rintro e w' ⟨rfl, ⟨nd, rfl⟩⟩))
              go_roundg k1
              case measure => have := HK1.out; omega
              case rel => exact ⟨(false), (wrap64 (x8_1 + 1)), (by first | rfl | (simp; done) | (simp [*]; done)), (by first | rfl | (simp; done) | (simp [*]; done)), H', ⟨by have := HK1.out; omega⟩, ⟨by (with_reducible repeat (first | refine blk_drewN ?_ _ | refine blk_drew ?_ | refine blk_alloc ?_ _)); exact BK397.out⟩, ⟨by repeat (first | (with_reducible first | exact HB.out | apply below_alloc | apply pw_below_drewN | apply below_drew1 | refine below_set ?_ GE397.out) | exact HB.out)⟩⟩
          · rw [if_neg c7] at H
            exact absurd H (by simp)
        · replace c6 := Bool.eq_false_iff.mpr c6
          subst c6
          have H1 : (unicodetextref40_Level.l0 k1 l1 l2 false (wrap64 (x8_1 + 1)) l0_0 l0_1) = some r := by rw [if_neg (show ¬ (false = true) by decide)] at H; exact H
          clear H
          have H := H1
          clear H1
          have H' := Aside0.mk H
          clear H
          go_wp2
          go_roundg k1
          case measure => have := HK1.out; omega
          case rel => exact ⟨(false), (wrap64 (x8_1 + 1)), (by first | rfl | (simp; done) | (simp [*]; done)), (by first | rfl | (simp; done) | (simp [*]; done)), H', ⟨by have := HK1.out; omega⟩, ⟨by (with_reducible repeat (first | refine blk_drewN ?_ _ | refine blk_drew ?_ | refine blk_alloc ?_ _)); exact BK397.out⟩, ⟨by repeat (first | (with_reducible first | exact HB.out | apply below_alloc | apply pw_below_drewN | apply below_drew1 | refine below_set ?_ GE397.out) | exact HB.out)⟩⟩
      · rw [if_neg c5] at H
        have c5b0 : decide (x8_1 < (l2.length : Int)) = false := decide_eq_false c5
        clear c5
        by_cases c10 : x7_1 = true
        · subst c10
          have H1 : (some 1) = some r := by rw [if_pos rfl] at H; exact H
          clear H
          have H := H1
          clear H1
          obtain rfl := Option.some.inj H
          go_wp2
          go_ret
          exact ⟨by first | rfl | (simp [errW_none, errW_some] <;> rfl) | (simp [*, errW_none, errW_some] <;> rfl), by repeat (first | (with_reducible first | exact HB.out | apply below_alloc | apply pw_below_drewN | apply below_drew1 | refine below_set ?_ GE397.out) | exact HB.out)⟩
        · replace c10 := Bool.eq_false_iff.mpr c10
          subst c10
          have H1 : ((unicodetextref40_Of.f k1 l0_0 l0_1 l2).bind fun t401 => (if (t401.length : Int) < 2 then (some 2) else (unicodetextref40_Level.l1 k1 l1 t401 0))) = some r := by rw [if_neg (show ¬ (false = true) by decide)] at H; exact H
          clear H
          have H := H1
          clear H1
          replace H := Option.bind_eq_some_iff.mp H
          obtain ⟨t401, A110, H⟩ := H
          replace H : (if (t401.length : Int) < 2 then (some 2) else (unicodetextref40_Level.l1 k1 l1 t401 0)) = some r := H
          have A11 := Aside0.mk A110
          clear A110
          by_cases c12 : (t401.length : Int) < 2
          · rw [if_pos c12] at H
            have c12b0 : decide ((t401.length : Int) < 2) = true := decide_eq_true c12
            have c12b1 : decide (t401.length < 2) = true := decide_eq_true (by omega)
            clear c12
            obtain rfl := Option.some.inj H
            have hcz13_0 : wr.cell? ⟨gb397, 0, none⟩ = some (.slice A0_0 l0_0.length c0_0) := (blk_cell BK397.out 0).trans rfl
            have hcz13_1 : wr.cell? ⟨gb397, 1, none⟩ = some (.slice A0_1 l0_1.length c0_1) := (blk_cell BK397.out 1).trans rfl
            have hfz13_0 := blk_frozen BK397.out 0
            have hfz13_1 := blk_frozen BK397.out 1
            go_wp2_with (first | ((with_reducible refine gate_callee (f := 17) rfl ?_); refine goesL_ (some 35) rfl rfl Try.func17 (by kernel_rfl) rfl #[.agg #[.slice A0_0 l0_0.length c0_0, .slice A0_1 l0_1.length c0_1], .slice A2 l2.length c2] rfl (by (try simp only [List.map_toArray, List.map_cons, List.map_nil]); first | done | rfl | (simp only [List.length_drop, List.length_take]; rfl)) ?_; (with_reducible refine (unicodetextref40_Of.calls k1 _ _ l0_0 _ _ l0_1 _ _ l2 t401 _ ?side1 ?side2 ?side3 ?side4 ?side5 ?side6 A11.out).mono ?_); (case side1 => repeat (first | exact (Kd.C_below HR0_0.out HB.out) | (with_reducible refine Kd.C_alloc ?_ _) | (with_reducible refine Kd.C_drewN ?_ _) | (with_reducible refine Kd.C_drew ?_))); (case side2 => exact HC0_0.out); (case side3 => repeat (first | exact (Kd.C_below HR0_1.out HB.out) | (with_reducible refine Kd.C_alloc ?_ _) | (with_reducible refine Kd.C_drewN ?_ _) | (with_reducible refine Kd.C_drew ?_))); (case side4 => exact HC0_1.out); (case side5 => repeat (first | exact (Kd.C_below HR2.out HB.out) | (with_reducible refine Kd.C_alloc ?_ _) | (with_reducible refine Kd.C_drewN ?_ _) | (with_reducible refine Kd.C_drew ?_))); (case side6 => exact HC2.out); rintro e w14 ⟨v402, rfl, ho0, hb⟩; refine ⟨_, rfl, ?_⟩; have n0_ := Aside0.mk (Kd.R_lower ho0 (below_size (by repeat (first | (with_reducible first | exact HB.out | apply below_alloc | apply pw_below_drewN | apply below_drew1 | refine below_set ?_ GE397.out) | exact HB.out)))); have n1_ := Aside0.mk (blk_below (g := gb397) (o := .cells #[.slice A0_0 l0_0.length c0_0, .slice A0_1 l0_1.length c0_1] 25 (0, 0)) (by (with_reducible repeat (first | refine blk_drewN ?_ _ | refine blk_drew ?_ | refine blk_alloc ?_ _)); exact BK397.out) hb); have n2_ := Aside0.mk (below_step (by repeat (first | (with_reducible first | exact HB.out | apply below_alloc | apply pw_below_drewN | apply below_drew1 | refine below_set ?_ GE397.out) | exact HB.out)) hb); clear BK397; clear HB; have HO403 := n0_; have BK397 := n1_; have HB := n2_; clear n0_ n1_ n2_; (try clear hb); (try clear hb2); (try clear hk); (try clear hi); (try clear ho0); obtain ⟨Ao15, co15, eo15⟩ := Kd.R_slice HO403.out; subst eo15))
            go_ret
            exact ⟨by first | rfl | (simp [errW_none, errW_some] <;> rfl) | (simp [*, errW_none, errW_some] <;> rfl), by repeat (first | (with_reducible first | exact HB.out | apply below_alloc | apply pw_below_drewN | apply below_drew1 | refine below_set ?_ GE397.out) | exact HB.out)⟩
          · rw [if_neg c12] at H
            have c12b0 : decide ((t401.length : Int) < 2) = false := decide_eq_false c12
            have c12b1 : decide (t401.length < 2) = false := decide_eq_false (by omega)
            clear c12
            have H' := Aside0.mk H
            clear H
            have hcz16_0 : wr.cell? ⟨gb397, 0, none⟩ = some (.slice A0_0 l0_0.length c0_0) := (blk_cell BK397.out 0).trans rfl
            have hcz16_1 : wr.cell? ⟨gb397, 1, none⟩ = some (.slice A0_1 l0_1.length c0_1) := (blk_cell BK397.out 1).trans rfl
            have hfz16_0 := blk_frozen BK397.out 0
            have hfz16_1 := blk_frozen BK397.out 1
            go_wp2_with (first | ((with_reducible refine gate_callee (f := 17) rfl ?_); refine goesL_ (some 35) rfl rfl Try.func17 (by kernel_rfl) rfl #[.agg #[.slice A0_0 l0_0.length c0_0, .slice A0_1 l0_1.length c0_1], .slice A2 l2.length c2] rfl (by (try simp only [List.map_toArray, List.map_cons, List.map_nil]); first | done | rfl | (simp only [List.length_drop, List.length_take]; rfl)) ?_; (with_reducible refine (unicodetextref40_Of.calls k1 _ _ l0_0 _ _ l0_1 _ _ l2 t401 _ ?side1 ?side2 ?side3 ?side4 ?side5 ?side6 A11.out).mono ?_); (case side1 => repeat (first | exact (Kd.C_below HR0_0.out HB.out) | (with_reducible refine Kd.C_alloc ?_ _) | (with_reducible refine Kd.C_drewN ?_ _) | (with_reducible refine Kd.C_drew ?_))); (case side2 => exact HC0_0.out); (case side3 => repeat (first | exact (Kd.C_below HR0_1.out HB.out) | (with_reducible refine Kd.C_alloc ?_ _) | (with_reducible refine Kd.C_drewN ?_ _) | (with_reducible refine Kd.C_drew ?_))); (case side4 => exact HC0_1.out); (case side5 => repeat (first | exact (Kd.C_below HR2.out HB.out) | (with_reducible refine Kd.C_alloc ?_ _) | (with_reducible refine Kd.C_drewN ?_ _) | (with_reducible refine Kd.C_drew ?_))); (case side6 => exact HC2.out); rintro e w17 ⟨v402, rfl, ho0, hb⟩; refine ⟨_, rfl, ?_⟩; have n0_ := Aside0.mk (Kd.R_lower ho0 (below_size (by repeat (first | (with_reducible first | exact HB.out | apply below_alloc | apply pw_below_drewN | apply below_drew1 | refine below_set ?_ GE397.out) | exact HB.out)))); have n1_ := Aside0.mk (blk_below (g := gb397) (o := .cells #[.slice A0_0 l0_0.length c0_0, .slice A0_1 l0_1.length c0_1] 25 (0, 0)) (by (with_reducible repeat (first | refine blk_drewN ?_ _ | refine blk_drew ?_ | refine blk_alloc ?_ _)); exact BK397.out) hb); have n2_ := Aside0.mk (below_step (by repeat (first | (with_reducible first | exact HB.out | apply below_alloc | apply pw_below_drewN | apply below_drew1 | refine below_set ?_ GE397.out) | exact HB.out)) hb); clear BK397; clear HB; have HO403 := n0_; have BK397 := n1_; have HB := n2_; clear n0_ n1_ n2_; (try clear hb); (try clear hb2); (try clear hk); (try clear hi); (try clear ho0); obtain ⟨Ao18, co18, eo18⟩ := Kd.R_slice HO403.out; subst eo18))
            go_loopg [10] k1 (fun kq v10 w' => ∃ (x10_2 : Int), v10 = .int .i64 x10_2 ∧ Aside0 (unicodetextref40_Level.l1 kq l1 t401 x10_2 = some r) ∧ Aside0 (kq ≤ k1) ∧ Aside0 (Kd.R Kd.string 9 w' w.heap.size (fun _ => True) (.slice Ao18 t401.length co18) t401) ∧ Aside0 (w'.heap[gb397]? = some (.cells #[(.slice A0_0 l0_0.length c0_0), (.slice A0_1 l0_1.length c0_1)] 25 (0, 0))) ∧ Aside0 (Below w.heap.size w w'))
            case atStart => exact ⟨(0), (by first | rfl | (simp; done) | (simp [*]; done)), H', ⟨Nat.le_refl _⟩, ⟨by (with_reducible repeat (first | apply Kd.R_alloc | apply Kd.R_drewN | apply Kd.R_drew)); exact HO403.out⟩, ⟨by (with_reducible repeat (first | refine blk_drewN ?_ _ | refine blk_drew ?_ | refine blk_alloc ?_ _)); exact BK397.out⟩, ⟨by repeat (first | (with_reducible first | exact HB.out | apply below_alloc | apply pw_below_drewN | apply below_drew1 | refine below_set ?_ GE397.out) | exact HB.out)⟩⟩
            case round =>
              clear H'
              try clear c1
              try clear c2
              try clear p2
              try clear p3
              try clear q3
              try clear hx3
              try clear p4
              try clear q4
              try clear hx4
              try clear c5
              try clear c5b0
              try clear c6
              try clear p6
              try clear c7
              try clear c7b0
              try clear c9
              try clear c10
              try clear c12
              try clear c12b0
              try clear c12b1
              try clear c17
              try clear hcz13_0
              try clear hcz13_1
              try clear hcz16_0
              try clear hcz16_1
              try clear hfz13_0
              try clear hfz13_1
              try clear hfz16_0
              try clear hfz16_1
              try clear hx398_0
              try clear hx400_0
              try clear p2
              try clear p398
              try clear p400
              try clear q398
              try clear q400
              obtain ⟨x10_2, rfl, HA, HK2, HO_9, BK397, HB⟩ := hrel
              cases gk with
              | zero => exact absurd HA.out (by simp [unicodetextref40_Level.l1])
              | succ k2 =>
                have H := HA.out
                clear HA
                simp only [unicodetextref40_Level.l1] at H
                by_cases c19 : x10_2 < (l1.length : Int)
                · rw [if_pos c19] at H
                  have c19b0 : decide (x10_2 < (l1.length : Int)) = true := decide_eq_true c19
                  clear c19
                  by_cases c20 : 0 ≤ x10_2
                  · rw [if_pos c20] at H
                    have c20b0 : decide (0 ≤ x10_2) = true := decide_eq_true c20
                    clear c20
                    replace H := Option.bind_eq_some_iff.mp H
                    obtain ⟨t405, A210, H⟩ := H
                    replace H : (if t405 = true then (some 3) else (unicodetextref40_Level.l1 k2 l1 t401 (wrap64 (x10_2 + 1)))) = some r := H
                    have A21 := Aside0.mk A210
                    clear A210
                    by_cases c22 : t405 = true
                    · subst c22
                      have H1 : (some 3) = some r := by rw [if_pos rfl] at H; exact H
                      clear H
                      have H := H1
                      clear H1
                      obtain rfl := Option.some.inj H
                      have p404 : 0 ≤ (x10_2 : Int) := of_decide_eq_true (by first | (with_reducible assumption) | assumption)
                      have q404 : x10_2 < (l1.length : Int) := of_decide_eq_true (by first | (with_reducible assumption) | assumption)
                      obtain ⟨ad404, A404_0, c404_0, e404, hx404_0, hl404_0, hi404_0⟩ := at_L5 HR1.out x10_2 p404 q404
                      cases e404
                      replace hx404_0 := (HB.out.cell (World.block_lt_of_cell? w _ hx404_0)).trans hx404_0
                      have HR404_0 := Aside0.mk hi404_0
                      have HC404_0 := Aside0.mk hl404_0
                      clear hi404_0 hl404_0
                      replace p404 := eq_true p404
                      replace q404 := eq_true q404
                      go_wp2_with (first | ((with_reducible refine gate_callee (f := 27) rfl ?_); refine goesL_ (some 50) rfl rfl Try.func27 (by kernel_rfl) rfl #[.slice Ao18 t401.length co18, .slice A404_0 (rd_L5 l1 x10_2).length c404_0] rfl (by (try simp only [List.map_toArray, List.map_cons, List.map_nil]); first | done | rfl | (simp only [List.length_drop, List.length_take]; rfl)) ?_; (with_reducible refine (unicodetextref40_Inside.calls k2 _ _ t401 _ _ (rd_L5 l1 x10_2) true _ ?side1 ?side2 ?side3 ?side4 A21.out).mono ?_); (case side1 => repeat (first | exact (Kd.R_reads' HO_9.out).2.2 | (with_reducible refine Kd.C_alloc ?_ _) | (with_reducible refine Kd.C_drewN ?_ _) | (with_reducible refine Kd.C_drew ?_))); (case side2 => exact (Kd.R_reads' HO_9.out).2.1); (case side3 => repeat (first | exact (Kd.C_below HR404_0.out HB.out) | (with_reducible refine Kd.C_alloc ?_ _) | (with_reducible refine Kd.C_drewN ?_ _) | (with_reducible refine Kd.C_drew ?_))); (case side4 => exact HC404_0.out); rintro e w' ⟨rfl, ⟨nd, rfl⟩⟩; refine ⟨_, rfl, ?_⟩))
                      go_ret
                      exact ⟨by first | rfl | (simp [errW_none, errW_some] <;> rfl) | (simp [*, errW_none, errW_some] <;> rfl), by repeat (first | (with_reducible first | exact HB.out | apply below_alloc | apply pw_below_drewN | apply below_drew1 | refine below_set ?_ GE397.out) | exact HB.out)⟩
                    · replace c22 := Bool.eq_false_iff.mpr c22
                      subst c22
                      have H1 : (unicodetextref40_Level.l1 k2 l1 t401 (wrap64 (x10_2 + 1))) = some r := by rw [if_neg (show ¬ (false = true) by decide)] at H; exact H
                      clear H
                      have H := H1
                      clear H1
                      have H' := Aside0.mk H
                      clear H
                      have p404 : 0 ≤ (x10_2 : Int) := of_decide_eq_true (by first | (with_reducible assumption) | assumption)
                      have q404 : x10_2 < (l1.length : Int) := of_decide_eq_true (by first | (with_reducible assumption) | assumption)
                      obtain ⟨ad404, A404_0, c404_0, e404, hx404_0, hl404_0, hi404_0⟩ := at_L5 HR1.out x10_2 p404 q404
                      cases e404
                      replace hx404_0 := (HB.out.cell (World.block_lt_of_cell? w _ hx404_0)).trans hx404_0
                      have HR404_0 := Aside0.mk hi404_0
                      have HC404_0 := Aside0.mk hl404_0
                      clear hi404_0 hl404_0
                      replace p404 := eq_true p404
                      replace q404 := eq_true q404
                      go_wp2_with (first | ((with_reducible refine gate_callee (f := 27) rfl ?_); refine goesL_ (some 50) rfl rfl Try.func27 (by kernel_rfl) rfl #[.slice Ao18 t401.length co18, .slice A404_0 (rd_L5 l1 x10_2).length c404_0] rfl (by (try simp only [List.map_toArray, List.map_cons, List.map_nil]); first | done | rfl | (simp only [List.length_drop, List.length_take]; rfl)) ?_; (with_reducible refine (unicodetextref40_Inside.calls k2 _ _ t401 _ _ (rd_L5 l1 x10_2) false _ ?side1 ?side2 ?side3 ?side4 A21.out).mono ?_); (case side1 => repeat (first | exact (Kd.R_reads' HO_9.out).2.2 | (with_reducible refine Kd.C_alloc ?_ _) | (with_reducible refine Kd.C_drewN ?_ _) | (with_reducible refine Kd.C_drew ?_))); (case side2 => exact (Kd.R_reads' HO_9.out).2.1); (case side3 => repeat (first | exact (Kd.C_below HR404_0.out HB.out) | (with_reducible refine Kd.C_alloc ?_ _) | (with_reducible refine Kd.C_drewN ?_ _) | (with_reducible refine Kd.C_drew ?_))); (case side4 => exact HC404_0.out); rintro e w' ⟨rfl, ⟨nd, rfl⟩⟩; refine ⟨_, rfl, ?_⟩))
                      go_roundg k2
                      case measure => have := HK1.out; have := HK2.out; omega
                      case rel => exact ⟨(wrap64 (x10_2 + 1)), (by first | rfl | (simp; done) | (simp [*]; done)), H', ⟨by have := HK1.out; have := HK2.out; omega⟩, ⟨by (with_reducible repeat (first | apply Kd.R_alloc | apply Kd.R_drewN | apply Kd.R_drew)); exact HO_9.out⟩, ⟨by (with_reducible repeat (first | refine blk_drewN ?_ _ | refine blk_drew ?_ | refine blk_alloc ?_ _)); exact BK397.out⟩, ⟨by repeat (first | (with_reducible first | exact HB.out | apply below_alloc | apply pw_below_drewN | apply below_drew1 | refine below_set ?_ GE397.out) | exact HB.out)⟩⟩
                  · rw [if_neg c20] at H
                    exact absurd H (by simp)
                · rw [if_neg c19] at H
                  have c19b0 : decide (x10_2 < (l1.length : Int)) = false := decide_eq_false c19
                  clear c19
                  obtain rfl := Option.some.inj H
                  go_wp2
                  go_ret
                  exact ⟨by first | rfl | (simp [errW_none, errW_some] <;> rfl) | (simp [*, errW_none, errW_some] <;> rfl), by repeat (first | (with_reducible first | exact HB.out | apply below_alloc | apply pw_below_drewN | apply below_drew1 | refine below_set ?_ GE397.out) | exact HB.out)⟩

/-! ### prelude plevel -/
theorem inside_l0 (l m : List ByteArray) (hl : l.length ≤ 1000) (hm : m.length ≤ 1000) : ∀ (k i : Nat), i ≤ l.length → l.length - i + 1001 < k → unicodetextref40_Inside.l0 k l m (i : Int) = some ((l.drop i).all (hasB m)) := by
  intro k
  induction k with
  | zero => intro i h1 h2; omega
  | succ k ih =>
    intro i h1 h2
    rw [unicodetextref40_Inside.l0]
    by_cases hi : i < l.length
    · rw [if_pos (by omega), if_pos (by omega), rdOf_nat, has_f m _ (by omega) k (by omega), Option.bind_some, wr64 _ (by omega) (by omega), drop_at l ByteArray.empty i hi, List.all_cons]
      cases hasB m (l.getD i ByteArray.empty) with
      | true => rw [if_pos rfl, Bool.true_and]; exact ih (i + 1) hi (by omega)
      | false => rw [if_neg (by decide), Bool.false_and]
    · rw [if_neg (by omega), List.drop_of_length_le (by omega)]; rfl
theorem inside_f (l m : List ByteArray) (hl : l.length ≤ 1000) (hm : m.length ≤ 1000) (k : Nat) (hk : 2100 ≤ k) : unicodetextref40_Inside.f k l m = some (l.all (hasB m)) :=
  inside_l0 l m hl hm k 0 (Nat.zero_le _) (by omega)
theorem allows_eq (l m : List ByteArray) : allows l m = l.all (hasB m) := by
  unfold allows
  rw [List.not_any_eq_all_not]
  congr 1
  funext s
  unfold missing hasB eqS
  rw [Bool.not_not]
  congr 1
  funext y
  rw [decide_eq_decide]
  exact ⟨fun h => h.symm, fun h => h.symm⟩
theorem level_l1 (ns : List ByteArray) (allowed : List (List ByteArray)) (hn : ns.length ≤ 1000) (ha : allowed.length ≤ 1000) (hm : ∀ m ∈ allowed, m.length ≤ 1000) : ∀ (k i : Nat), i ≤ allowed.length → allowed.length - i + 2101 < k →
    unicodetextref40_Level.l1 k allowed ns (i : Int) = some (if (allowed.drop i).any (allows ns) = true then 3 else 4) := by
  intro k
  induction k with
  | zero => intro i h1 h2; omega
  | succ k ih =>
    intro i h1 h2
    rw [unicodetextref40_Level.l1]
    by_cases hi : i < allowed.length
    · have hmem : allowed.getD i [] ∈ allowed := by
        rw [List.getD_eq_getElem?_getD, List.getElem?_eq_getElem hi]; exact List.getElem_mem hi
      have e : rd_L5 allowed (i : Int) = allowed.getD i [] := rfl
      rw [if_pos (by omega), if_pos (by omega), e, inside_f ns _ hn (hm _ hmem) k (by omega), Option.bind_some, wr64 _ (by omega) (by omega), drop_at allowed [] i hi, List.any_cons, allows_eq]
      cases ns.all (hasB (allowed.getD i [])) with
      | true => rw [if_pos rfl, Bool.true_or, if_pos rfl]
      | false => rw [if_neg (by decide), Bool.false_or]; exact ih (i + 1) hi (by omega)
    · rw [if_neg (by omega), List.drop_of_length_le (by omega)]; rfl
theorem level_l0 (names : List ByteArray) (spans : List Sp) (allowed : List (List ByteArray)) (text : List Int) (hl : text.length ≤ 1000) (ha : allowed.length ≤ 1000) (hm : ∀ m ∈ allowed, m.length ≤ 1000) : ∀ (k i : Nat) (b : Bool), i ≤ text.length → text.length - i + 4200 < k →
    unicodetextref40_Level.l0 k allowed text b (i : Int) names spans = some (if (b && !((text.drop i).any highI)) = true then 1 else if (ofB (reals names spans text)).length ≤ 1 then 2 else if allowed.any (allows (ofB (reals names spans text))) = true then 3 else 4) := by
  intro k
  induction k with
  | zero => intro i b h1 h2; omega
  | succ k ih =>
    intro i b h1 h2
    rw [unicodetextref40_Level.l0]
    by_cases hi : i < text.length
    · rw [if_pos (by omega), wr64 _ (by omega) (by omega), drop_at text 0 i hi, List.any_cons]
      have e : rd text (i : Int) = text.getD i 0 := rfl
      cases b with
      | true =>
        rw [if_pos rfl, if_pos (by omega), e]
        unfold unicodetextref01_Valid.f
        by_cases hv : text.getD i 0 ≥ 0
        · rw [if_pos hv, Option.bind_some]
          by_cases hv2 : text.getD i 0 ≤ 1114111
          · rw [decide_eq_true hv2, if_pos rfl]
            have := ih (i + 1) (decide (text.getD i 0 < 128)) hi (by omega)
            rw [show ((i : Int) + 1) = ((i + 1 : Nat) : Int) from rfl, this]
            have e2 : (decide (text.getD i 0 < 128) && !((text.drop (i + 1)).any highI)) = (true && !(highI (text.getD i 0) || (text.drop (i + 1)).any highI)) := by
              unfold highI
              rw [decide_eq_false (by omega : ¬ text.getD i 0 < 0), Bool.false_or, Bool.true_and, Bool.not_or]
              congr 1
              rw [← decide_not, decide_eq_decide]; omega
            rw [e2]
          · rw [decide_eq_false hv2, if_neg (by decide)]
            have := ih (i + 1) false hi (by omega)
            rw [show ((i : Int) + 1) = ((i + 1 : Nat) : Int) from rfl, this]
            have e2 : highI (text.getD i 0) = true := by unfold highI; rw [decide_eq_true (by omega : 127 < text.getD i 0), Bool.or_true]
            rw [e2]; rfl
        · rw [if_neg hv, Option.bind_some, if_neg (by decide)]
          have := ih (i + 1) false hi (by omega)
          rw [show ((i : Int) + 1) = ((i + 1 : Nat) : Int) from rfl, this]
          have e2 : highI (text.getD i 0) = true := by unfold highI; rw [decide_eq_true (by omega : text.getD i 0 < 0), Bool.true_or]
          rw [e2]; rfl
      | false =>
        rw [if_neg (by decide)]
        have := ih (i + 1) false hi (by omega)
        rw [show ((i : Int) + 1) = ((i + 1 : Nat) : Int) from rfl, this]; rfl
    · rw [if_neg (by omega), List.drop_of_length_le (by omega)]
      cases b with
      | true => rw [if_pos rfl]; rfl
      | false =>
        have e0 : ∀ X : Int, (if (false && !(([] : List Int).any highI)) = true then (1 : Int) else X) = X := fun X => rfl
        rw [e0, if_neg (by decide), of_f names spans text hl k (by omega), Option.bind_some]
        have hol := ofB_length (reals names spans text)
        have hrl : (reals names spans text).length = text.length := by unfold reals; rw [List.length_map]
        by_cases h1 : (ofB (reals names spans text)).length ≤ 1
        · rw [if_pos (by omega), if_pos h1]
        · rw [if_neg (by omega), if_neg h1]
          exact level_l1 _ allowed (by omega) ha hm k 0 (Nat.zero_le _) (by omega)
theorem level_f (names : List ByteArray) (spans : List Sp) (allowed : List (List ByteArray)) (text : List Int) (hl : text.length ≤ 1000) (ha : allowed.length ≤ 1000) (hm : ∀ m ∈ allowed, m.length ≤ 1000) (k : Nat) (hk : 5300 ≤ k) :
    unicodetextref40_Level.f k names spans allowed text = some (levelB names spans allowed text) := by
  unfold unicodetextref40_Level.f
  have := level_l0 names spans allowed text hl ha hm k 0 true (Nat.zero_le _) (by omega)
  rw [show (0 : Int) = ((0 : Nat) : Int) from rfl, this]
  unfold levelB
  rw [List.drop_zero, Bool.true_and]
  cases text.any highI <;> rfl

end Go.Proofs.Ytneelkaelcilfaa.PA

-- Laid by hprint.py (this session's program, over the kit's print) for the seat Ytneelkaelcilfaa. Lean checks it.
import Derived.Test.YtneelkaelcilfaaPAx0
import Derived.Test.YtneelkaelcilfaaPAx2
import Derived.Test.YtneelkaelcilfaaPAx3
namespace Go.Proofs.Ytneelkaelcilfaa.PA
open Go.RowKit Go.Proofs.YtneelkaelcilfaaW.PrintWords Go.Proofs.YtneelkaelcilfaaW.PrintLast Go.Proofs.YtneelkaelcilfaaW.PrintMore
attribute [local go_sem] max2_int min2_int max_two min_two max_three min_three max_four min_four   -- for this text's walks alone
set_option linter.unusedVariables false
set_option linter.unusedSimpArgs false

/-! ### unicodetextref10_names: function 57 -/
mutual
def unicodetextref10_names.j0 : Nat → List ByteArray → Bool → Option (Bool)
  | 0, _, _ => none
  | k + 1, x0, x12 => if x12 = true then (some false) else (unicodetextref10_names.l0 k x0 0)
def unicodetextref10_names.l0 : Nat → List ByteArray → Int → Option (Bool)
  | 0, _, _ => none
  | k + 1, x0, x3 => if x3 < (x0.length : Int) then (if 0 ≤ x3 then ((unicodetextref10_Named.f k (rdOf ByteArray.empty x0 x3)).bind fun t284 => (if t284 = true then (unicodetextref10_names.l1 k x0 x3 0) else (some false))) else (none)) else (some true)
def unicodetextref10_names.l1 : Nat → List ByteArray → Int → Int → Option (Bool)
  | 0, _, _, _ => none
  | k + 1, x0, x3, x4 => if x4 < x3 then (if 0 ≤ x4 then (if x4 < (x0.length : Int) then (if 0 ≤ x3 then (if x3 < (x0.length : Int) then (if (rdOf ByteArray.empty x0 x4).toList = (rdOf ByteArray.empty x0 x3).toList then (some false) else (unicodetextref10_names.l1 k x0 x3 (wrap64 (x4 + 1)))) else (none)) else (none)) else (none)) else (none)) else (unicodetextref10_names.l0 k x0 (wrap64 (x3 + 1)))
end
def unicodetextref10_names.f (k : Nat) (l0 : List ByteArray) : Option (Bool) := if (l0.length : Int) < 1 then (unicodetextref10_names.j0 k l0 true) else (unicodetextref10_names.j0 k l0 (decide ((l0.length : Int) > 250)))
theorem unicodetextref10_names.mono_l : ∀ k, (∀ y0 y1, LeO (unicodetextref10_names.j0 k y0 y1) (unicodetextref10_names.j0 (k + 1) y0 y1)) ∧ (∀ y0 y1, LeO (unicodetextref10_names.l0 k y0 y1) (unicodetextref10_names.l0 (k + 1) y0 y1)) ∧ (∀ y0 y1 y2, LeO (unicodetextref10_names.l1 k y0 y1 y2) (unicodetextref10_names.l1 (k + 1) y0 y1 y2))
  | 0 => ⟨fun _ _ r h => by simp [unicodetextref10_names.j0] at h, fun _ _ r h => by simp [unicodetextref10_names.l0] at h, fun _ _ _ r h => by simp [unicodetextref10_names.l1] at h⟩
  | k + 1 => by
    obtain ⟨ih0, ih1, ih2⟩ := unicodetextref10_names.mono_l k
    refine ⟨?_, ?_, ?_⟩
    · intro y0 y1
      unfold unicodetextref10_names.j0
      repeat' first
      | (with_reducible exact ih0 _ _)
      | (with_reducible exact ih1 _ _)
      | (with_reducible exact ih2 _ _ _)
      | (with_reducible exact unicodetextref10_Named.mono _ _)
      | (with_reducible exact LeO.refl _)
      | (with_reducible exact LeO.none _)
      | (with_reducible refine LeO.ite ?_ ?_)
      | (with_reducible refine LeO.bind ?_ (fun _ => ?_))
      | exact ih0 _ _
      | exact ih1 _ _
      | exact ih2 _ _ _
      | exact unicodetextref10_Named.mono _ _
      | exact LeO.none _
      | refine LeO.ite ?_ ?_
      | refine LeO.bind ?_ (fun _ => ?_)
    · intro y0 y1
      unfold unicodetextref10_names.l0
      repeat' first
      | (with_reducible exact ih0 _ _)
      | (with_reducible exact ih1 _ _)
      | (with_reducible exact ih2 _ _ _)
      | (with_reducible exact unicodetextref10_Named.mono _ _)
      | (with_reducible exact LeO.refl _)
      | (with_reducible exact LeO.none _)
      | (with_reducible refine LeO.ite ?_ ?_)
      | (with_reducible refine LeO.bind ?_ (fun _ => ?_))
      | exact ih0 _ _
      | exact ih1 _ _
      | exact ih2 _ _ _
      | exact unicodetextref10_Named.mono _ _
      | exact LeO.none _
      | refine LeO.ite ?_ ?_
      | refine LeO.bind ?_ (fun _ => ?_)
    · intro y0 y1 y2
      unfold unicodetextref10_names.l1
      repeat' first
      | (with_reducible exact ih0 _ _)
      | (with_reducible exact ih1 _ _)
      | (with_reducible exact ih2 _ _ _)
      | (with_reducible exact unicodetextref10_Named.mono _ _)
      | (with_reducible exact LeO.refl _)
      | (with_reducible exact LeO.none _)
      | (with_reducible refine LeO.ite ?_ ?_)
      | (with_reducible refine LeO.bind ?_ (fun _ => ?_))
      | exact ih0 _ _
      | exact ih1 _ _
      | exact ih2 _ _ _
      | exact unicodetextref10_Named.mono _ _
      | exact LeO.none _
      | refine LeO.ite ?_ ?_
      | refine LeO.bind ?_ (fun _ => ?_)
theorem unicodetextref10_names.mono : ∀ a0 k, LeO (unicodetextref10_names.f k a0) (unicodetextref10_names.f (k + 1) a0) := by
  intro a0 k
  obtain ⟨ih0, ih1, ih2⟩ := unicodetextref10_names.mono_l k
  unfold unicodetextref10_names.f
  repeat' first
      | (with_reducible exact ih0 _ _)
      | (with_reducible exact ih1 _ _)
      | (with_reducible exact ih2 _ _ _)
      | (with_reducible exact unicodetextref10_Named.mono _ _)
      | (with_reducible exact LeO.refl _)
      | (with_reducible exact LeO.none _)
      | (with_reducible refine LeO.ite ?_ ?_)
      | (with_reducible refine LeO.bind ?_ (fun _ => ?_))
      | exact ih0 _ _
      | exact ih1 _ _
      | exact ih2 _ _ _
      | exact unicodetextref10_Named.mono _ _
      | exact LeO.none _
      | refine LeO.ite ?_ ?_
      | refine LeO.bind ?_ (fun _ => ?_)
set_option maxHeartbeats 8000000 in
set_option maxRecDepth 100000 in
theorem unicodetextref10_names.calls (k : Nat) (A0 : Option Addr) (c0 : Nat) (l0 : List ByteArray) (r : Bool) (w : World) (hr0 : Kd.C Kd.string w A0 l0.length l0) (hc0 : l0.length ≤ c0) (h : unicodetextref10_names.f k l0 = some r) :
    Calls Try.prog 57 #[.slice A0 l0.length c0] w fun e w' => e = .returned (.bool r) ∧ Drawn0 w w' := by
  have HR0 := Aside0.mk hr0
  have HC0 := Aside0.mk hc0
  clear hr0 hc0
  have H : (if (l0.length : Int) < 1 then (unicodetextref10_names.j0 k l0 true) else (unicodetextref10_names.j0 k l0 (decide ((l0.length : Int) > 250)))) = some r := h
  clear h
  have HC2 := Aside0.mk H
  clear H
  go_enter Try.func57, Try.ntmps57
  go_upto_region 1 with (fail)
  repeat (go_quiet (fail); go_upto_region 1 with (fail))
  go_cut [12] (fun v12 wc => ∃ (kq : Nat) (x12_1 : Bool), v12 = .bool x12_1 ∧ Aside0 (unicodetextref10_names.j0 kq l0 x12_1 = some r) ∧ Aside0 (kq ≤ k) ∧ Drawn0 w wc)
  case first =>
    have H := HC2.out
    clear HC2
    by_cases c3 : (l0.length : Int) < 1
    · rw [if_pos c3] at H
      have c3b0 : decide ((l0.length : Int) < 1) = true := decide_eq_true c3
      have c3b1 : decide (l0.length < 1) = true := decide_eq_true (by omega)
      clear c3
      (first | rw [c3b0] | (simp only [i64_w, i32_w]; rw [c3b0]) | skip)
      have H' := Aside0.mk H
      clear H
      go_wp2
      repeat (go_quiet (fail); try go_wp2)
      go_meet
      case rel => exact ⟨_, (true), (by first | rfl | (simp; done) | (simp [*]; done)), H', ⟨by first | omega | exact Nat.le_refl _⟩, by repeat (first | exact Drawn0.refl _ | apply Drawn0.step)⟩
    · rw [if_neg c3] at H
      have c3b0 : decide ((l0.length : Int) < 1) = false := decide_eq_false c3
      have c3b1 : decide (l0.length < 1) = false := decide_eq_false (by omega)
      clear c3
      (first | rw [c3b0] | (simp only [i64_w, i32_w]; rw [c3b0]) | skip)
      have H' := Aside0.mk H
      clear H
      go_wp2
      repeat (go_quiet (fail); try go_wp2)
      go_meet
      case rel => exact ⟨_, (decide ((l0.length : Int) > 250)), (by first | rfl | (simp; done) | (simp [*]; done)), H', ⟨by first | omega | exact Nat.le_refl _⟩, by repeat (first | exact Drawn0.refl _ | apply Drawn0.step)⟩
  case rest =>
    clear HC2
    try clear p2
    try clear c3
    try clear c3b0
    try clear c3b1
    obtain ⟨kq, x12_1, rfl, HA, HJ1, ⟨mc1, rfl⟩⟩ := hcut
    cases kq with
    | zero => exact absurd HA.out (by simp [unicodetextref10_names.j0])
    | succ kj1 =>
      have H := HA.out
      clear HA
      simp only [unicodetextref10_names.j0] at H
      by_cases c4 : x12_1 = true
      · subst c4
        have H1 : (some false) = some r := by rw [if_pos rfl] at H; exact H
        clear H
        have H := H1
        clear H1
        obtain rfl := Option.some.inj H
        go_wp2
        repeat (go_quiet (fail); try go_wp2)
        go_ret
        exact ⟨by first | rfl | (simp; done) | (simp [*]; done), by repeat (first | exact Drawn0.refl _ | apply Drawn0.step)⟩
      · replace c4 := Bool.eq_false_iff.mpr c4
        subst c4
        have H1 : (unicodetextref10_names.l0 kj1 l0 0) = some r := by rw [if_neg (show ¬ (false = true) by decide)] at H; exact H
        clear H
        have H := H1
        clear H1
        have H' := Aside0.mk H
        clear H
        go_wp2
        repeat (go_quiet (fail); try go_wp2)
        go_loopg [3] kj1 (fun kq v3 w' => ∃ (x3_2 : Int), v3 = .int .i64 x3_2 ∧ Aside0 (unicodetextref10_names.l0 kq l0 x3_2 = some r) ∧ Aside0 (kq ≤ kj1) ∧ Drawn0 w w')
        case atStart => exact ⟨(0), (by first | rfl | (simp; done) | (simp [*]; done)), H', ⟨Nat.le_refl _⟩, by repeat (first | exact Drawn0.refl _ | apply Drawn0.step)⟩
        case round =>
          clear H'
          try clear c1
          try clear p2
          try clear c3
          try clear c3b0
          try clear c3b1
          try clear c4
          try clear p2
          obtain ⟨x3_2, rfl, HA, HK2, ⟨m2, rfl⟩⟩ := hrel
          cases gk with
          | zero => exact absurd HA.out (by simp [unicodetextref10_names.l0])
          | succ k2 =>
            have H := HA.out
            clear HA
            simp only [unicodetextref10_names.l0] at H
            by_cases c5 : x3_2 < (l0.length : Int)
            · rw [if_pos c5] at H
              have c5b0 : decide (x3_2 < (l0.length : Int)) = true := decide_eq_true c5
              clear c5
              by_cases c6 : 0 ≤ x3_2
              · rw [if_pos c6] at H
                have c6b0 : decide (0 ≤ x3_2) = true := decide_eq_true c6
                clear c6
                replace H := Option.bind_eq_some_iff.mp H
                obtain ⟨t284, A70, H⟩ := H
                replace H : (if t284 = true then (unicodetextref10_names.l1 k2 l0 x3_2 0) else (some false)) = some r := H
                have A7 := Aside0.mk A70
                clear A70
                by_cases c8 : t284 = true
                · subst c8
                  have H1 : (unicodetextref10_names.l1 k2 l0 x3_2 0) = some r := by rw [if_pos rfl] at H; exact H
                  clear H
                  have H := H1
                  clear H1
                  have H' := Aside0.mk H
                  clear H
                  have p283 : 0 ≤ (x3_2 : Int) := of_decide_eq_true (by first | (with_reducible assumption) | assumption)
                  have q283 : x3_2 < (l0.length : Int) := of_decide_eq_true (by first | (with_reducible assumption) | assumption)
                  obtain ⟨ad283, e283, hx283_0⟩ := Kd.at_string HR0.out x3_2 p283 q283
                  cases e283
                  replace p283 := eq_true p283
                  replace q283 := eq_true q283
                  go_wp2_with (first | (go_at_call 72; (with_reducible refine (unicodetextref10_Named.calls k2 (rdOf ByteArray.empty l0 x3_2) true _ A7.out).mono ?_); rintro e w' ⟨rfl, ⟨nd, rfl⟩⟩; (try first | exact ⟨rfl, _, World.drewN_drewN _ _ _⟩ | exact ⟨rfl, _, Eq.trans (World.drewN_drewN _ _ _) (congrArg (World.drewN _) (Nat.add_assoc _ _ _))⟩)))
                  repeat (go_quiet (first | (go_at_call 72; (with_reducible refine (unicodetextref10_Named.calls k2 (rdOf ByteArray.empty l0 x3_2) true _ A7.out).mono ?_); rintro e w' ⟨rfl, ⟨nd, rfl⟩⟩; (try first | exact ⟨rfl, _, World.drewN_drewN _ _ _⟩ | exact ⟨rfl, _, Eq.trans (World.drewN_drewN _ _ _) (congrArg (World.drewN _) (Nat.add_assoc _ _ _))⟩))); try go_wp2_with (first | (go_at_call 72; (with_reducible refine (unicodetextref10_Named.calls k2 (rdOf ByteArray.empty l0 x3_2) true _ A7.out).mono ?_); rintro e w' ⟨rfl, ⟨nd, rfl⟩⟩; (try first | exact ⟨rfl, _, World.drewN_drewN _ _ _⟩ | exact ⟨rfl, _, Eq.trans (World.drewN_drewN _ _ _) (congrArg (World.drewN _) (Nat.add_assoc _ _ _))⟩))))
                  go_loopg [4] k2 (fun kq v4 w' => ∃ (x4_3 : Int), v4 = .int .i64 x4_3 ∧ Aside0 (unicodetextref10_names.l1 kq l0 x3_2 x4_3 = some r) ∧ Aside0 (kq ≤ k2) ∧ Drawn0 w w')
                  case atStart => exact ⟨(0), (by first | rfl | (simp; done) | (simp [*]; done)), H', ⟨Nat.le_refl _⟩, by repeat (first | exact Drawn0.refl _ | apply Drawn0.step)⟩
                  case round =>
                    clear H'
                    try clear c1
                    try clear p2
                    try clear q2
                    try clear hx2
                    try clear c3
                    try clear c3b0
                    try clear c3b1
                    try clear c4
                    try clear c5
                    try clear c5b0
                    try clear c6
                    try clear c6b0
                    try clear c8
                    try clear hx283_0
                    try clear p2
                    try clear p283
                    try clear q283
                    obtain ⟨x4_3, rfl, HA, HK3, ⟨m3, rfl⟩⟩ := hrel
                    cases gk with
                    | zero => exact absurd HA.out (by simp [unicodetextref10_names.l1])
                    | succ k3 =>
                      have H := HA.out
                      clear HA
                      simp only [unicodetextref10_names.l1] at H
                      by_cases c9 : x4_3 < x3_2
                      · rw [if_pos c9] at H
                        have c9b0 : decide (x4_3 < x3_2) = true := decide_eq_true c9
                        clear c9
                        by_cases c10 : 0 ≤ x4_3
                        · rw [if_pos c10] at H
                          have c10b0 : decide (0 ≤ x4_3) = true := decide_eq_true c10
                          clear c10
                          by_cases c11 : x4_3 < (l0.length : Int)
                          · rw [if_pos c11] at H
                            have c11b0 : decide (x4_3 < (l0.length : Int)) = true := decide_eq_true c11
                            clear c11
                            by_cases c12 : 0 ≤ x3_2
                            · rw [if_pos c12] at H
                              have c12b0 : decide (0 ≤ x3_2) = true := decide_eq_true c12
                              clear c12
                              by_cases c13 : x3_2 < (l0.length : Int)
                              · rw [if_pos c13] at H
                                have c13b0 : decide (x3_2 < (l0.length : Int)) = true := decide_eq_true c13
                                clear c13
                                by_cases c14 : (rdOf ByteArray.empty l0 x4_3).toList = (rdOf ByteArray.empty l0 x3_2).toList
                                · rw [if_pos c14] at H
                                  have c14b0 : ((rdOf ByteArray.empty l0 x4_3).toList == (rdOf ByteArray.empty l0 x3_2).toList) = true := beq_iff_eq.mpr c14
                                  have c14b1 : ((rdOf ByteArray.empty l0 x4_3).toList != (rdOf ByteArray.empty l0 x3_2).toList) = false := bne_eq_false_iff_eq.mpr c14
                                  clear c14
                                  obtain rfl := Option.some.inj H
                                  have p285 : 0 ≤ (x4_3 : Int) := of_decide_eq_true (by first | (with_reducible assumption) | assumption)
                                  have q285 : x4_3 < (l0.length : Int) := of_decide_eq_true (by first | (with_reducible assumption) | assumption)
                                  obtain ⟨ad285, e285, hx285_0⟩ := Kd.at_string HR0.out x4_3 p285 q285
                                  obtain rfl : ad283 = ad285 := (by injection e285)
                                  replace p285 := eq_true p285
                                  replace q285 := eq_true q285
                                  have p286 : 0 ≤ (x3_2 : Int) := of_decide_eq_true (by first | (with_reducible assumption) | assumption)
                                  have q286 : x3_2 < (l0.length : Int) := of_decide_eq_true (by first | (with_reducible assumption) | assumption)
                                  obtain ⟨ad286, e286, hx286_0⟩ := Kd.at_string HR0.out x3_2 p286 q286
                                  obtain rfl : ad283 = ad286 := (by injection e286)
                                  replace p286 := eq_true p286
                                  replace q286 := eq_true q286
                                  go_wp2
                                  repeat (go_quiet (fail); try go_wp2)
                                  go_ret
                                  exact ⟨by first | rfl | (simp; done) | (simp [*]; done), by repeat (first | exact Drawn0.refl _ | apply Drawn0.step)⟩
                                · rw [if_neg c14] at H
                                  have c14b0 : ((rdOf ByteArray.empty l0 x4_3).toList == (rdOf ByteArray.empty l0 x3_2).toList) = false := beq_eq_false_iff_ne.mpr c14
                                  have c14b1 : ((rdOf ByteArray.empty l0 x4_3).toList != (rdOf ByteArray.empty l0 x3_2).toList) = true := bne_iff_ne.mpr c14
                                  have H' := Aside0.mk H
                                  clear H
                                  have p285 : 0 ≤ (x4_3 : Int) := of_decide_eq_true (by first | (with_reducible assumption) | assumption)
                                  have q285 : x4_3 < (l0.length : Int) := of_decide_eq_true (by first | (with_reducible assumption) | assumption)
                                  obtain ⟨ad285, e285, hx285_0⟩ := Kd.at_string HR0.out x4_3 p285 q285
                                  obtain rfl : ad283 = ad285 := (by injection e285)
                                  replace p285 := eq_true p285
                                  replace q285 := eq_true q285
                                  have p286 : 0 ≤ (x3_2 : Int) := of_decide_eq_true (by first | (with_reducible assumption) | assumption)
                                  have q286 : x3_2 < (l0.length : Int) := of_decide_eq_true (by first | (with_reducible assumption) | assumption)
                                  obtain ⟨ad286, e286, hx286_0⟩ := Kd.at_string HR0.out x3_2 p286 q286
                                  obtain rfl : ad283 = ad286 := (by injection e286)
                                  replace p286 := eq_true p286
                                  replace q286 := eq_true q286
                                  go_wp2
                                  repeat (go_quiet (fail); try go_wp2)
                                  go_roundg k3
                                  case measure => have := HJ1.out; have := HK2.out; have := HK3.out; omega
                                  case rel => exact ⟨(wrap64 (x4_3 + 1)), (by first | rfl | (simp; done) | (simp [*]; done)), H', ⟨by have := HJ1.out; have := HK2.out; have := HK3.out; omega⟩, by repeat (first | exact Drawn0.refl _ | apply Drawn0.step)⟩
                              · rw [if_neg c13] at H
                                exact absurd H (by simp)
                            · rw [if_neg c12] at H
                              exact absurd H (by simp)
                          · rw [if_neg c11] at H
                            exact absurd H (by simp)
                        · rw [if_neg c10] at H
                          exact absurd H (by simp)
                      · rw [if_neg c9] at H
                        have c9b0 : decide (x4_3 < x3_2) = false := decide_eq_false c9
                        clear c9
                        have H' := Aside0.mk H
                        clear H
                        go_wp2
                        repeat (go_quiet (fail); try go_wp2)
                        go_roundg k3
                        case measure => have := HJ1.out; have := HK2.out; have := HK3.out; omega
                        case rel => exact ⟨(wrap64 (x3_2 + 1)), (by first | rfl | (simp; done) | (simp [*]; done)), H', ⟨by have := HJ1.out; have := HK2.out; have := HK3.out; omega⟩, by repeat (first | exact Drawn0.refl _ | apply Drawn0.step)⟩
                · replace c8 := Bool.eq_false_iff.mpr c8
                  subst c8
                  have H1 : (some false) = some r := by rw [if_neg (show ¬ (false = true) by decide)] at H; exact H
                  clear H
                  have H := H1
                  clear H1
                  obtain rfl := Option.some.inj H
                  have p283 : 0 ≤ (x3_2 : Int) := of_decide_eq_true (by first | (with_reducible assumption) | assumption)
                  have q283 : x3_2 < (l0.length : Int) := of_decide_eq_true (by first | (with_reducible assumption) | assumption)
                  obtain ⟨ad283, e283, hx283_0⟩ := Kd.at_string HR0.out x3_2 p283 q283
                  cases e283
                  replace p283 := eq_true p283
                  replace q283 := eq_true q283
                  go_wp2_with (first | (go_at_call 72; (with_reducible refine (unicodetextref10_Named.calls k2 (rdOf ByteArray.empty l0 x3_2) false _ A7.out).mono ?_); rintro e w' ⟨rfl, ⟨nd, rfl⟩⟩; (try first | exact ⟨rfl, _, World.drewN_drewN _ _ _⟩ | exact ⟨rfl, _, Eq.trans (World.drewN_drewN _ _ _) (congrArg (World.drewN _) (Nat.add_assoc _ _ _))⟩)))
                  repeat (go_quiet (first | (go_at_call 72; (with_reducible refine (unicodetextref10_Named.calls k2 (rdOf ByteArray.empty l0 x3_2) false _ A7.out).mono ?_); rintro e w' ⟨rfl, ⟨nd, rfl⟩⟩; (try first | exact ⟨rfl, _, World.drewN_drewN _ _ _⟩ | exact ⟨rfl, _, Eq.trans (World.drewN_drewN _ _ _) (congrArg (World.drewN _) (Nat.add_assoc _ _ _))⟩))); try go_wp2_with (first | (go_at_call 72; (with_reducible refine (unicodetextref10_Named.calls k2 (rdOf ByteArray.empty l0 x3_2) false _ A7.out).mono ?_); rintro e w' ⟨rfl, ⟨nd, rfl⟩⟩; (try first | exact ⟨rfl, _, World.drewN_drewN _ _ _⟩ | exact ⟨rfl, _, Eq.trans (World.drewN_drewN _ _ _) (congrArg (World.drewN _) (Nat.add_assoc _ _ _))⟩))))
                  go_ret
                  exact ⟨by first | rfl | (simp; done) | (simp [*]; done), by repeat (first | exact Drawn0.refl _ | apply Drawn0.step)⟩
              · rw [if_neg c6] at H
                exact absurd H (by simp)
            · rw [if_neg c5] at H
              have c5b0 : decide (x3_2 < (l0.length : Int)) = false := decide_eq_false c5
              clear c5
              obtain rfl := Option.some.inj H
              go_wp2
              repeat (go_quiet (fail); try go_wp2)
              go_ret
              exact ⟨by first | rfl | (simp; done) | (simp [*]; done), by repeat (first | exact Drawn0.refl _ | apply Drawn0.step)⟩

/-! ### prelude names -/
theorem letter_cases (b : Int) : (b < 48 ∧ letterI b = false) ∨ ((48 ≤ b ∧ b ≤ 57) ∧ letterI b = true) ∨ ((58 ≤ b ∧ b ≤ 64) ∧ letterI b = false) ∨ ((65 ≤ b ∧ b ≤ 90) ∧ letterI b = true) ∨ ((91 ≤ b ∧ b ≤ 94) ∧ letterI b = false) ∨ (b = 95 ∧ letterI b = true) ∨ (b = 96 ∧ letterI b = false) ∨ ((97 ≤ b ∧ b ≤ 122) ∧ letterI b = true) ∨ (123 ≤ b ∧ letterI b = false) := by
  unfold letterI
  simp only [Bool.or_eq_true, Bool.and_eq_true, Bool.or_eq_false_iff, Bool.and_eq_false_iff, decide_eq_true_eq, decide_eq_false_iff_not]
  omega
theorem Named_l0 (s : ByteArray) (hs : s.size ≤ 9223372036854775807) : Ev (fun k => unicodetextref10_Named.l0 k s 0) ((bytesOf s).all letterI) := by
  refine walk_all (bytesOf s) 0 (fun k i => unicodetextref10_Named.l0 k s i) (fun l => l.all letterI) ?_ ?_
  · refine ev_end fun k => ?_
    simp only [unicodetextref10_Named.l0]
    rw [bytesOf_length, if_neg (by omega)]; rfl
  · intro i hi h
    rw [bytesOf_length] at hi
    refine ev_step h fun k h => ?_
    simp only [unicodetextref10_Named.l0]
    rw [if_pos (by omega), if_pos (by omega), wrap_up (by omega) (show (i : Int) < (s.size : Int) by omega) hs, succ_cast, h, bt_nat, List.all_cons]
    generalize (bytesOf s).getD i 0 = b
    generalize ((bytesOf s).drop (i + 1)).all letterI = r
    clear h hi
    rcases letter_cases b with ⟨h, h'⟩ | ⟨h, h'⟩ | ⟨h, h'⟩ | ⟨h, h'⟩ | ⟨h, h'⟩ | ⟨h, h'⟩ | ⟨h, h'⟩ | ⟨h, h'⟩ | ⟨h, h'⟩
    all_goals rw [h']
    all_goals (repeat (first | rw [if_pos (by omega)] | rw [if_neg (by omega)]))
    all_goals rfl
theorem Named_ev (s : ByteArray) : Ev (fun k => unicodetextref10_Named.f k s) (wordB s) := by
  unfold wordB
  by_cases h2 : s.size ≤ 32
  · refine ev_step (Named_l0 s (by omega)) fun k h => ?_
    simp only [unicodetextref10_Named.f, unicodetextref10_Named.j0]
    by_cases h1 : (s.size : Int) < 1
    · rw [if_pos h1, decide_eq_false (show ¬ 1 ≤ s.size by omega)]; rfl
    · rw [if_neg h1, decide_eq_true (show 1 ≤ s.size by omega), decide_eq_false (show ¬ (s.size : Int) > 32 by omega), decide_eq_true h2, if_neg (by decide), h]; rfl
  · refine ev_end fun k => ?_
    simp only [unicodetextref10_Named.f, unicodetextref10_Named.j0]
    rw [if_neg (by omega), decide_eq_true (show (s.size : Int) > 32 by omega), decide_eq_false h2, Bool.and_false]; rfl
theorem names_l1 (l : List ByteArray) (hl : l.length ≤ 9223372036854775807) (i : Nat) (hi : i < l.length) (r : Bool) (hR : Ev (fun k => unicodetextref10_names.l0 k l ((i + 1 : Nat) : Int)) r) :
    ∀ (n j : Nat), j ≤ i → i - j = n →
      Ev (fun k => unicodetextref10_names.l1 k l (i : Int) (j : Int)) (!(((l.take i).drop j).any fun y => decide (y = l.getD i ByteArray.empty)) && r) := by
  intro n
  induction n with
  | zero =>
    intro j h1 h2
    obtain rfl : i = j := by omega
    refine ev_step hR fun k h => ?_
    simp only [unicodetextref10_names.l1]
    rw [if_neg (by omega), wrap_up (by omega) (show (i : Int) < (l.length : Int) by omega) hl, succ_cast, h, List.drop_of_length_le (by rw [List.length_take]; omega)]; rfl
  | succ n ih =>
    intro j h1 h2
    have hd : (l.take i).drop j = l.getD j ByteArray.empty :: (l.take i).drop (j + 1) := by
      rw [drop_at (l.take i) ByteArray.empty j (by rw [List.length_take]; omega)]
      rw [List.getD_eq_getElem?_getD, List.getElem?_take, if_pos (by omega), ← List.getD_eq_getElem?_getD]
    refine ev_step (ih (j + 1) (by omega) (by omega)) fun k h => ?_
    simp only [unicodetextref10_names.l1]
    rw [if_pos (by omega), if_pos (by omega), if_pos (by omega), if_pos (by omega), if_pos (by omega), rdOf_nat, rdOf_nat, hd, List.any_cons]
    by_cases e : l.getD j ByteArray.empty = l.getD i ByteArray.empty
    · rw [if_pos ((bs_eq _ _).2 e), decide_eq_true e]; rfl
    · rw [if_neg (fun h => e ((bs_eq _ _).1 h)), wrap_up (by omega) (show (j : Int) < (l.length : Int) by omega) hl, succ_cast, h, decide_eq_false e]; rfl
theorem names_l0 (l : List ByteArray) (hl : l.length ≤ 9223372036854775807) :
    ∀ (n i : Nat), i ≤ l.length → l.length - i = n → Ev (fun k => unicodetextref10_names.l0 k l (i : Int)) (freshB (l.take i) (l.drop i)) := by
  intro n
  induction n with
  | zero =>
    intro i h1 h2
    obtain rfl : i = l.length := by omega
    refine ev_end fun k => ?_
    simp only [unicodetextref10_names.l0]
    rw [if_neg (by omega), List.drop_length]; rfl
  | succ n ih =>
    intro i h1 h2
    have hlt : i < l.length := by omega
    have hr := ih (i + 1) (by omega) (by omega)
    have h1' := names_l1 l hl i hlt _ hr i 0 (by omega) (by omega)
    refine ev_step2 (Named_ev (l.getD i ByteArray.empty)) h1' fun k h h' => ?_
    have h'' : unicodetextref10_names.l1 k l (i : Int) 0 = _ := h'
    simp only [unicodetextref10_names.l0]
    rw [if_pos (by omega), if_pos (by omega), rdOf_nat, h, Option.bind_some, h'', drop_at l ByteArray.empty i hlt, freshB, List.drop_zero]
    rw [show l.take (i + 1) = l.take i ++ [l.getD i ByteArray.empty] by rw [List.take_succ_eq_append_getElem hlt, List.getD_eq_getElem?_getD, List.getElem?_eq_getElem hlt]; rfl]
    cases wordB (l.getD i ByteArray.empty)
    · rfl
    · rfl
theorem names_ev (l : List ByteArray) (hl : l.length ≤ 9223372036854775807) : Ev (fun k => unicodetextref10_names.f k l) (namesB l) := by
  refine ev_step (names_l0 l hl l.length 0 (by omega) (by omega)) fun k h => ?_
  have h' : unicodetextref10_names.l0 k l 0 = _ := h
  simp only [unicodetextref10_names.f, unicodetextref10_names.j0]
  unfold namesB
  by_cases h1 : (l.length : Int) < 1
  · rw [if_pos h1, decide_eq_false (show ¬ 1 ≤ l.length by omega)]; rfl
  · rw [if_neg h1, decide_eq_true (show 1 ≤ l.length by omega)]
    by_cases h2 : (l.length : Int) > 250
    · rw [decide_eq_true h2, decide_eq_false (show ¬ l.length ≤ 250 by omega)]; rfl
    · rw [decide_eq_false h2, decide_eq_true (show l.length ≤ 250 by omega), if_neg (by decide), h']; rfl

end Go.Proofs.Ytneelkaelcilfaa.PA

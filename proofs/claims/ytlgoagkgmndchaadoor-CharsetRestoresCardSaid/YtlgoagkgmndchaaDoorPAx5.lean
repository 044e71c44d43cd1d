-- Laid by hprint.py (this session's program, over the kit's print) for the seat YtlgoagkgmndchaaDoor. Lean checks it.
import Derived.Test.YtlgoagkgmndchaaDoorPAx0
import Derived.Test.YtlgoagkgmndchaaDoorPAx2
import Derived.Test.YtlgoagkgmndchaaDoorPAx4
namespace Go.Proofs.YtlgoagkgmndchaaDoor.PA
open Go.RowKit Go.Proofs.YtlgoagkgmndchaaDoorW.PrintWords Go.Proofs.YtlgoagkgmndchaaDoorW.PrintLast Go.Proofs.YtlgoagkgmndchaaDoorW.PrintMore
attribute [local go_sem] max2_int min2_int max_two min_two max_three min_three max_four min_four   -- for this text's walks alone
set_option linter.unusedVariables false
set_option linter.unusedSimpArgs false

/-! ### charset_line: function 34 -/
def charset_line.j0 : Nat → ByteArray → Bool → Option (Int × Int × Bool)
  | 0, _, _ => none
  | k + 1, x0, x16 => if x16 = true then (some (0, 0, false)) else (if 0 < (x0.size : Int) then ((strings_IndexByte.f (⟨#[48, 49, 50, 51, 52, 53, 54, 55, 56, 57, 65, 66, 67, 68, 69, 70]⟩ : ByteArray) (bt x0 0)).bind fun t120 => (if 1 < (x0.size : Int) then ((strings_IndexByte.f (⟨#[48, 49, 50, 51, 52, 53, 54, 55, 56, 57, 65, 66, 67, 68, 69, 70]⟩ : ByteArray) (bt x0 1)).bind fun t121 => (if 3 ≤ (x0.size : Int) then ((codepoint_Parse.f k (x0.extract 3 x0.size)).bind fun bt122 => (if t120 ≥ 0 then (if t121 ≥ 0 then (if bt122.2 = 0 then ((codepoint_Scalar.f bt122.1).bind fun t124 => (some (wrap64 ((wrap64 (16 * t120)) + t121), bt122.1, t124))) else (some (wrap64 ((wrap64 (16 * t120)) + t121), bt122.1, false))) else (some (wrap64 ((wrap64 (16 * t120)) + t121), bt122.1, false))) else (some (wrap64 ((wrap64 (16 * t120)) + t121), bt122.1, false)))) else (none))) else (none))) else (none))
def charset_line.f (k : Nat) (a0 : ByteArray) : Option (Int × Int × Bool) := if (a0.size : Int) < 4 then (charset_line.j0 k a0 true) else (if 2 < (a0.size : Int) then (charset_line.j0 k a0 ((bt a0 2) != 32)) else (none))
theorem charset_line.mono_l : ∀ k, (∀ y0 y1, LeO (charset_line.j0 k y0 y1) (charset_line.j0 (k + 1) y0 y1))
  | 0 => fun _ _ r h => by simp [charset_line.j0] at h
  | k + 1 => by
    have ih0 := charset_line.mono_l k
    · intro y0 y1
      unfold charset_line.j0
      repeat' first
      | (with_reducible exact ih0 _ _)
      | (with_reducible exact codepoint_Parse.mono _ _)
      | (with_reducible exact LeO.refl _)
      | (with_reducible exact LeO.none _)
      | (with_reducible refine LeO.ite ?_ ?_)
      | (with_reducible refine LeO.bind ?_ (fun _ => ?_))
      | exact ih0 _ _
      | exact codepoint_Parse.mono _ _
      | exact LeO.none _
      | refine LeO.ite ?_ ?_
      | refine LeO.bind ?_ (fun _ => ?_)
theorem charset_line.mono : ∀ a0 k, LeO (charset_line.f k a0) (charset_line.f (k + 1) a0) := by
  intro a0 k
  have ih0 := charset_line.mono_l k
  unfold charset_line.f
  repeat' first
      | (with_reducible exact ih0 _ _)
      | (with_reducible exact codepoint_Parse.mono _ _)
      | (with_reducible exact LeO.refl _)
      | (with_reducible exact LeO.none _)
      | (with_reducible refine LeO.ite ?_ ?_)
      | (with_reducible refine LeO.bind ?_ (fun _ => ?_))
      | exact ih0 _ _
      | exact codepoint_Parse.mono _ _
      | exact LeO.none _
      | refine LeO.ite ?_ ?_
      | refine LeO.bind ?_ (fun _ => ?_)
set_option maxHeartbeats 8000000 in
set_option maxRecDepth 100000 in
theorem charset_line.calls (k : Nat) (a0 : ByteArray) (r1 : Int) (r2 : Int) (r3 : Bool) (w : World) (h : charset_line.f k a0 = some (r1, r2, r3)) :
    Calls Tryd.prog 34 #[.string a0] w fun e w' => e = .returned (.tuple #[.int .i64 r1, .int .i64 r2, .bool r3]) ∧ Below w.heap.size w w' := by
  have HB := Aside0.mk (Below.refl w.heap.size w)
  have H : (if (a0.size : Int) < 4 then (charset_line.j0 k a0 true) else (if 2 < (a0.size : Int) then (charset_line.j0 k a0 ((bt a0 2) != 32)) else (none))) = some (r1, r2, r3) := h
  clear h
  have HC2 := Aside0.mk H
  clear H
  go_enter Tryd.func34, Tryd.ntmps34
  go_upto_region 1 with (fail)
  repeat (go_quiet (fail); go_upto_region 1 with (fail))
  go_cut [16] (fun v16 wc => ∃ (kq : Nat) (x16_1 : Bool), v16 = .bool x16_1 ∧ Aside0 (charset_line.j0 kq a0 x16_1 = some (r1, r2, r3)) ∧ Aside0 (kq ≤ k) ∧ Aside0 (Below w.heap.size w wc))
  case first =>
    have H := HC2.out
    clear HC2
    by_cases c3 : (a0.size : Int) < 4
    · rw [if_pos c3] at H
      have c3b0 : decide ((a0.size : Int) < 4) = true := decide_eq_true c3
      have c3b1 : decide (a0.size < 4) = true := decide_eq_true (by omega)
      clear c3
      (first | rw [c3b0] | (simp only [i64_w, i32_w]; rw [c3b0]) | skip)
      have H' := Aside0.mk H
      clear H
      go_wp2
      repeat (go_quiet (fail); try go_wp2)
      go_meet
      case rel => exact ⟨_, (true), (by first | rfl | (simp; done) | (simp [*]; done)), H', ⟨by first | omega | exact Nat.le_refl _⟩, ⟨by repeat (first | (with_reducible first | exact HB.out | apply below_alloc | apply pw_below_drewN | apply below_drew1) | exact HB.out)⟩⟩
    · rw [if_neg c3] at H
      have c3b0 : decide ((a0.size : Int) < 4) = false := decide_eq_false c3
      have c3b1 : decide (a0.size < 4) = false := decide_eq_false (by omega)
      clear c3
      (first | rw [c3b0] | (simp only [i64_w, i32_w]; rw [c3b0]) | skip)
      by_cases c4 : 2 < (a0.size : Int)
      · rw [if_pos c4] at H
        have c4b0 : decide (2 < (a0.size : Int)) = true := decide_eq_true c4
        have c4b1 : decide (2 < a0.size) = true := decide_eq_true (by omega)
        clear c4
        have H' := Aside0.mk H
        clear H
        have p5 : 0 ≤ (2 : Int) := (by omega)
        have q5 : 2 < a0.size := (by have : (2 : Int) < (a0.size : Int) := of_decide_eq_true (by first | (with_reducible assumption) | assumption); omega)
        have hx5 : ∀ h : 2 < a0.size, ((a0[2]'h).toNat : Int) = bt a0 2 := bt_at a0 2
        clear p5
        have qi5 : (2 < (a0.size : Int)) = True := eq_true (of_decide_eq_true (by first | (with_reducible assumption) | assumption))
        replace q5 := eq_true q5
        go_wp2
        repeat (go_quiet (fail); try go_wp2)
        go_meet
        case rel => exact ⟨_, (((bt a0 2) != 32)), (by first | rfl | (simp; done) | (simp [*]; done)), H', ⟨by first | omega | exact Nat.le_refl _⟩, ⟨by repeat (first | (with_reducible first | exact HB.out | apply below_alloc | apply pw_below_drewN | apply below_drew1) | exact HB.out)⟩⟩
      · rw [if_neg c4] at H
        exact absurd H (by simp)
  case rest =>
    clear HC2
    try clear p2
    try clear c3
    try clear c3b0
    try clear c3b1
    try clear c4
    try clear c4b0
    try clear c4b1
    try clear p5
    try clear q5
    try clear hx5
    try clear qi5
    try clear p5
    try clear q5
    obtain ⟨kq, x16_1, rfl, HA, HJ1, HB⟩ := hcut
    cases kq with
    | zero => exact absurd HA.out (by simp [charset_line.j0])
    | succ kj1 =>
      have H := HA.out
      clear HA
      simp only [charset_line.j0] at H
      by_cases c6 : x16_1 = true
      · subst c6
        have H1 : (some (0, 0, false)) = some (r1, r2, r3) := by rw [if_pos rfl] at H; exact H
        clear H
        have H := H1
        clear H1
        simp only [Option.some.injEq, Prod.mk.injEq] at H
        obtain ⟨rfl, rfl, rfl⟩ := H
        go_wp2
        repeat (go_quiet (fail); try go_wp2)
        go_ret3
        exact ⟨by first | rfl | (simp [errW_none, errW_some] <;> rfl) | (simp [*, errW_none, errW_some] <;> rfl), by repeat (first | (with_reducible first | exact HB.out | apply below_alloc | apply pw_below_drewN | apply below_drew1) | exact HB.out)⟩
      · replace c6 := Bool.eq_false_iff.mpr c6
        subst c6
        have H1 : (if 0 < (a0.size : Int) then ((strings_IndexByte.f (⟨#[48, 49, 50, 51, 52, 53, 54, 55, 56, 57, 65, 66, 67, 68, 69, 70]⟩ : ByteArray) (bt a0 0)).bind fun t120 => (if 1 < (a0.size : Int) then ((strings_IndexByte.f (⟨#[48, 49, 50, 51, 52, 53, 54, 55, 56, 57, 65, 66, 67, 68, 69, 70]⟩ : ByteArray) (bt a0 1)).bind fun t121 => (if 3 ≤ (a0.size : Int) then ((codepoint_Parse.f kj1 (a0.extract 3 a0.size)).bind fun bt122 => (if t120 ≥ 0 then (if t121 ≥ 0 then (if bt122.2 = 0 then ((codepoint_Scalar.f bt122.1).bind fun t124 => (some (wrap64 ((wrap64 (16 * t120)) + t121), bt122.1, t124))) else (some (wrap64 ((wrap64 (16 * t120)) + t121), bt122.1, false))) else (some (wrap64 ((wrap64 (16 * t120)) + t121), bt122.1, false))) else (some (wrap64 ((wrap64 (16 * t120)) + t121), bt122.1, false)))) else (none))) else (none))) else (none)) = some (r1, r2, r3) := by rw [if_neg (show ¬ (false = true) by decide)] at H; exact H
        clear H
        have H := H1
        clear H1
        by_cases c7 : 0 < (a0.size : Int)
        · rw [if_pos c7] at H
          have c7b0 : decide (0 < (a0.size : Int)) = true := decide_eq_true c7
          have c7b1 : decide (0 < a0.size) = true := decide_eq_true (by omega)
          clear c7
          replace H := Option.bind_eq_some_iff.mp H
          obtain ⟨t120, A90, H⟩ := H
          replace H : (if 1 < (a0.size : Int) then ((strings_IndexByte.f (⟨#[48, 49, 50, 51, 52, 53, 54, 55, 56, 57, 65, 66, 67, 68, 69, 70]⟩ : ByteArray) (bt a0 1)).bind fun t121 => (if 3 ≤ (a0.size : Int) then ((codepoint_Parse.f kj1 (a0.extract 3 a0.size)).bind fun bt122 => (if t120 ≥ 0 then (if t121 ≥ 0 then (if bt122.2 = 0 then ((codepoint_Scalar.f bt122.1).bind fun t124 => (some (wrap64 ((wrap64 (16 * t120)) + t121), bt122.1, t124))) else (some (wrap64 ((wrap64 (16 * t120)) + t121), bt122.1, false))) else (some (wrap64 ((wrap64 (16 * t120)) + t121), bt122.1, false))) else (some (wrap64 ((wrap64 (16 * t120)) + t121), bt122.1, false)))) else (none))) else (none)) = some (r1, r2, r3) := H
          have A9 := Aside0.mk A90
          clear A90
          by_cases c10 : 1 < (a0.size : Int)
          · rw [if_pos c10] at H
            have c10b0 : decide (1 < (a0.size : Int)) = true := decide_eq_true c10
            have c10b1 : decide (1 < a0.size) = true := decide_eq_true (by omega)
            clear c10
            replace H := Option.bind_eq_some_iff.mp H
            obtain ⟨t121, A120, H⟩ := H
            replace H : (if 3 ≤ (a0.size : Int) then ((codepoint_Parse.f kj1 (a0.extract 3 a0.size)).bind fun bt122 => (if t120 ≥ 0 then (if t121 ≥ 0 then (if bt122.2 = 0 then ((codepoint_Scalar.f bt122.1).bind fun t124 => (some (wrap64 ((wrap64 (16 * t120)) + t121), bt122.1, t124))) else (some (wrap64 ((wrap64 (16 * t120)) + t121), bt122.1, false))) else (some (wrap64 ((wrap64 (16 * t120)) + t121), bt122.1, false))) else (some (wrap64 ((wrap64 (16 * t120)) + t121), bt122.1, false)))) else (none)) = some (r1, r2, r3) := H
            have A12 := Aside0.mk A120
            clear A120
            by_cases c13 : 3 ≤ (a0.size : Int)
            · rw [if_pos c13] at H
              have c13b0 := eq_true c13
              have c13b1 : decide (3 ≤ (a0.size : Int)) = true := decide_eq_true c13
              clear c13
              replace H := Option.bind_eq_some_iff.mp H
              obtain ⟨⟨t122, t123⟩, A140, H⟩ := H
              replace H : (if t120 ≥ 0 then (if t121 ≥ 0 then (if t123 = 0 then ((codepoint_Scalar.f t122).bind fun t124 => (some (wrap64 ((wrap64 (16 * t120)) + t121), t122, t124))) else (some (wrap64 ((wrap64 (16 * t120)) + t121), t122, false))) else (some (wrap64 ((wrap64 (16 * t120)) + t121), t122, false))) else (some (wrap64 ((wrap64 (16 * t120)) + t121), t122, false))) = some (r1, r2, r3) := H
              have A14 := Aside0.mk A140
              clear A140
              by_cases c15 : t120 ≥ 0
              · rw [if_pos c15] at H
                have c15b0 : decide (0 ≤ t120) = true := decide_eq_true c15
                clear c15
                by_cases c16 : t121 ≥ 0
                · rw [if_pos c16] at H
                  have c16b0 : decide (0 ≤ t121) = true := decide_eq_true c16
                  clear c16
                  by_cases c17 : t123 = 0
                  · rw [if_pos c17] at H
                    have c17b0 : (t123 == 0) = true := beq_iff_eq.mpr c17
                    have c17b1 : (t123 != 0) = false := bne_eq_false_iff_eq.mpr c17
                    clear c17
                    replace H := Option.bind_eq_some_iff.mp H
                    obtain ⟨t124, A180, H⟩ := H
                    replace H : (some (wrap64 ((wrap64 (16 * t120)) + t121), t122, t124)) = some (r1, r2, r3) := H
                    have A18 := Aside0.mk A180
                    clear A180
                    simp only [Option.some.injEq, Prod.mk.injEq] at H
                    obtain ⟨rfl, rfl, rfl⟩ := H
                    have p8 : 0 ≤ (0 : Int) := (by omega)
                    have q8 : 0 < a0.size := (by have : (0 : Int) < (a0.size : Int) := of_decide_eq_true (by first | (with_reducible assumption) | assumption); omega)
                    have hx8 : ∀ h : 0 < a0.size, ((a0[0]'h).toNat : Int) = bt a0 0 := bt_at a0 0
                    clear p8
                    have qi8 : (0 < (a0.size : Int)) = True := eq_true (of_decide_eq_true (by first | (with_reducible assumption) | assumption))
                    replace q8 := eq_true q8
                    go_wp2_with (first | (go_at_call 47; (with_reducible refine (strings_IndexByte.calls (⟨#[48, 49, 50, 51, 52, 53, 54, 55, 56, 57, 65, 66, 67, 68, 69, 70]⟩ : ByteArray) (bt a0 0) t120 _ A9.out).mono ?_); rintro e w' ⟨rfl, ⟨nd, rfl⟩⟩; (try first | exact ⟨rfl, _, World.drewN_drewN _ _ _⟩ | exact ⟨rfl, _, Eq.trans (World.drewN_drewN _ _ _) (congrArg (World.drewN _) (Nat.add_assoc _ _ _))⟩); have p11 : 0 ≤ (1 : Int) := (by omega); have q11 : 1 < a0.size := (by have : (1 : Int) < (a0.size : Int) := of_decide_eq_true (by first | (with_reducible assumption) | assumption); omega); have hx11 : ∀ h : 1 < a0.size, ((a0[1]'h).toNat : Int) = bt a0 1 := bt_at a0 1; clear p11; have qi11 : (1 < (a0.size : Int)) = True := eq_true (of_decide_eq_true (by first | (with_reducible assumption) | assumption)); replace q11 := eq_true q11) | (go_at_call 47; (with_reducible refine (strings_IndexByte.calls (⟨#[48, 49, 50, 51, 52, 53, 54, 55, 56, 57, 65, 66, 67, 68, 69, 70]⟩ : ByteArray) (bt a0 1) t121 _ A12.out).mono ?_); rintro e w' ⟨rfl, ⟨nd, rfl⟩⟩; (try first | exact ⟨rfl, _, World.drewN_drewN _ _ _⟩ | exact ⟨rfl, _, Eq.trans (World.drewN_drewN _ _ _) (congrArg (World.drewN _) (Nat.add_assoc _ _ _))⟩)) | (go_at_call 48; (with_reducible refine (codepoint_Parse.calls kj1 (a0.extract 3 a0.size) t122 t123 _ A14.out).mono ?_); rintro e w19 ⟨rfl, hb⟩; have n0_ := Aside0.mk (below_step (by repeat (first | (with_reducible first | exact HB.out | apply below_alloc | apply pw_below_drewN | apply below_drew1) | exact HB.out)) hb); clear HB; have HB := n0_; clear n0_; (try clear hb); (try clear hb2); (try clear hk); (try clear hi)) | (go_at_call 20; (with_reducible refine (codepoint_Scalar.calls t122 t124 _ A18.out).mono ?_); rintro e w' ⟨rfl, ⟨nd, rfl⟩⟩; (try first | exact ⟨rfl, _, World.drewN_drewN _ _ _⟩ | exact ⟨rfl, _, Eq.trans (World.drewN_drewN _ _ _) (congrArg (World.drewN _) (Nat.add_assoc _ _ _))⟩)))
                    repeat (go_quiet (first | (go_at_call 47; (with_reducible refine (strings_IndexByte.calls (⟨#[48, 49, 50, 51, 52, 53, 54, 55, 56, 57, 65, 66, 67, 68, 69, 70]⟩ : ByteArray) (bt a0 0) t120 _ A9.out).mono ?_); rintro e w' ⟨rfl, ⟨nd, rfl⟩⟩; (try first | exact ⟨rfl, _, World.drewN_drewN _ _ _⟩ | exact ⟨rfl, _, Eq.trans (World.drewN_drewN _ _ _) (congrArg (World.drewN _) (Nat.add_assoc _ _ _))⟩); have p11 : 0 ≤ (1 : Int) := (by omega); have q11 : 1 < a0.size := (by have : (1 : Int) < (a0.size : Int) := of_decide_eq_true (by first | (with_reducible assumption) | assumption); omega); have hx11 : ∀ h : 1 < a0.size, ((a0[1]'h).toNat : Int) = bt a0 1 := bt_at a0 1; clear p11; have qi11 : (1 < (a0.size : Int)) = True := eq_true (of_decide_eq_true (by first | (with_reducible assumption) | assumption)); replace q11 := eq_true q11) | (go_at_call 47; (with_reducible refine (strings_IndexByte.calls (⟨#[48, 49, 50, 51, 52, 53, 54, 55, 56, 57, 65, 66, 67, 68, 69, 70]⟩ : ByteArray) (bt a0 1) t121 _ A12.out).mono ?_); rintro e w' ⟨rfl, ⟨nd, rfl⟩⟩; (try first | exact ⟨rfl, _, World.drewN_drewN _ _ _⟩ | exact ⟨rfl, _, Eq.trans (World.drewN_drewN _ _ _) (congrArg (World.drewN _) (Nat.add_assoc _ _ _))⟩)) | (go_at_call 48; (with_reducible refine (codepoint_Parse.calls kj1 (a0.extract 3 a0.size) t122 t123 _ A14.out).mono ?_); rintro e w19 ⟨rfl, hb⟩; have n0_ := Aside0.mk (below_step (by repeat (first | (with_reducible first | exact HB.out | apply below_alloc | apply pw_below_drewN | apply below_drew1) | exact HB.out)) hb); clear HB; have HB := n0_; clear n0_; (try clear hb); (try clear hb2); (try clear hk); (try clear hi)) | (go_at_call 20; (with_reducible refine (codepoint_Scalar.calls t122 t124 _ A18.out).mono ?_); rintro e w' ⟨rfl, ⟨nd, rfl⟩⟩; (try first | exact ⟨rfl, _, World.drewN_drewN _ _ _⟩ | exact ⟨rfl, _, Eq.trans (World.drewN_drewN _ _ _) (congrArg (World.drewN _) (Nat.add_assoc _ _ _))⟩))); try go_wp2_with (first | (go_at_call 47; (with_reducible refine (strings_IndexByte.calls (⟨#[48, 49, 50, 51, 52, 53, 54, 55, 56, 57, 65, 66, 67, 68, 69, 70]⟩ : ByteArray) (bt a0 0) t120 _ A9.out).mono ?_); rintro e w' ⟨rfl, ⟨nd, rfl⟩⟩; (try first | exact ⟨rfl, _, World.drewN_drewN _ _ _⟩ | exact ⟨rfl, _, Eq.trans (World.drewN_drewN _ _ _) (congrArg (World.drewN _) (Nat.add_assoc _ _ _))⟩); have p11 : 0 ≤ (1 : Int) := (by omega); have q11 : 1 < a0.size := (by have : (1 : Int) < (a0.size : Int) := of_decide_eq_true (by first | (with_reducible assumption) | assumption); omega); have hx11 : ∀ h : 1 < a0.size, ((a0[1]'h).toNat : Int) = bt a0 1 := bt_at a0 1; clear p11; have qi11 : (1 < (a0.size : Int)) = True := eq_true (of_decide_eq_true (by first | (with_reducible assumption) | assumption)); replace q11 := eq_true q11) | (go_at_call 47; (with_reducible refine (strings_IndexByte.calls (⟨#[48, 49, 50, 51, 52, 53, 54, 55, 56, 57, 65, 66, 67, 68, 69, 70]⟩ : ByteArray) (bt a0 1) t121 _ A12.out).mono ?_); rintro e w' ⟨rfl, ⟨nd, rfl⟩⟩; (try first | exact ⟨rfl, _, World.drewN_drewN _ _ _⟩ | exact ⟨rfl, _, Eq.trans (World.drewN_drewN _ _ _) (congrArg (World.drewN _) (Nat.add_assoc _ _ _))⟩)) | (go_at_call 48; (with_reducible refine (codepoint_Parse.calls kj1 (a0.extract 3 a0.size) t122 t123 _ A14.out).mono ?_); rintro e w19 ⟨rfl, hb⟩; have n0_ := Aside0.mk (below_step (by repeat (first | (with_reducible first | exact HB.out | apply below_alloc | apply pw_below_drewN | apply below_drew1) | exact HB.out)) hb); clear HB; have HB := n0_; clear n0_; (try clear hb); (try clear hb2); (try clear hk); (try clear hi)) | (go_at_call 20; (with_reducible refine (codepoint_Scalar.calls t122 t124 _ A18.out).mono ?_); rintro e w' ⟨rfl, ⟨nd, rfl⟩⟩; (try first | exact ⟨rfl, _, World.drewN_drewN _ _ _⟩ | exact ⟨rfl, _, Eq.trans (World.drewN_drewN _ _ _) (congrArg (World.drewN _) (Nat.add_assoc _ _ _))⟩))))
                    go_ret3
                    exact ⟨by first | rfl | (simp [errW_none, errW_some] <;> rfl) | (simp [*, errW_none, errW_some] <;> rfl), by repeat (first | (with_reducible first | exact HB.out | apply below_alloc | apply pw_below_drewN | apply below_drew1) | exact HB.out)⟩
                  · rw [if_neg c17] at H
                    have c17b0 : (t123 == 0) = false := beq_eq_false_iff_ne.mpr c17
                    have c17b1 : (t123 != 0) = true := bne_iff_ne.mpr c17
                    simp only [Option.some.injEq, Prod.mk.injEq] at H
                    obtain ⟨rfl, rfl, rfl⟩ := H
                    have p8 : 0 ≤ (0 : Int) := (by omega)
                    have q8 : 0 < a0.size := (by have : (0 : Int) < (a0.size : Int) := of_decide_eq_true (by first | (with_reducible assumption) | assumption); omega)
                    have hx8 : ∀ h : 0 < a0.size, ((a0[0]'h).toNat : Int) = bt a0 0 := bt_at a0 0
                    clear p8
                    have qi8 : (0 < (a0.size : Int)) = True := eq_true (of_decide_eq_true (by first | (with_reducible assumption) | assumption))
                    replace q8 := eq_true q8
                    go_wp2_with (first | (go_at_call 47; (with_reducible refine (strings_IndexByte.calls (⟨#[48, 49, 50, 51, 52, 53, 54, 55, 56, 57, 65, 66, 67, 68, 69, 70]⟩ : ByteArray) (bt a0 0) t120 _ A9.out).mono ?_); rintro e w' ⟨rfl, ⟨nd, rfl⟩⟩; (try first | exact ⟨rfl, _, World.drewN_drewN _ _ _⟩ | exact ⟨rfl, _, Eq.trans (World.drewN_drewN _ _ _) (congrArg (World.drewN _) (Nat.add_assoc _ _ _))⟩); have p11 : 0 ≤ (1 : Int) := (by omega); have q11 : 1 < a0.size := (by have : (1 : Int) < (a0.size : Int) := of_decide_eq_true (by first | (with_reducible assumption) | assumption); omega); have hx11 : ∀ h : 1 < a0.size, ((a0[1]'h).toNat : Int) = bt a0 1 := bt_at a0 1; clear p11; have qi11 : (1 < (a0.size : Int)) = True := eq_true (of_decide_eq_true (by first | (with_reducible assumption) | assumption)); replace q11 := eq_true q11) | (go_at_call 47; (with_reducible refine (strings_IndexByte.calls (⟨#[48, 49, 50, 51, 52, 53, 54, 55, 56, 57, 65, 66, 67, 68, 69, 70]⟩ : ByteArray) (bt a0 1) t121 _ A12.out).mono ?_); rintro e w' ⟨rfl, ⟨nd, rfl⟩⟩; (try first | exact ⟨rfl, _, World.drewN_drewN _ _ _⟩ | exact ⟨rfl, _, Eq.trans (World.drewN_drewN _ _ _) (congrArg (World.drewN _) (Nat.add_assoc _ _ _))⟩)) | (go_at_call 48; (with_reducible refine (codepoint_Parse.calls kj1 (a0.extract 3 a0.size) t122 t123 _ A14.out).mono ?_); rintro e w20 ⟨rfl, hb⟩; have n0_ := Aside0.mk (below_step (by repeat (first | (with_reducible first | exact HB.out | apply below_alloc | apply pw_below_drewN | apply below_drew1) | exact HB.out)) hb); clear HB; have HB := n0_; clear n0_; (try clear hb); (try clear hb2); (try clear hk); (try clear hi)))
                    repeat (go_quiet (first | (go_at_call 47; (with_reducible refine (strings_IndexByte.calls (⟨#[48, 49, 50, 51, 52, 53, 54, 55, 56, 57, 65, 66, 67, 68, 69, 70]⟩ : ByteArray) (bt a0 0) t120 _ A9.out).mono ?_); rintro e w' ⟨rfl, ⟨nd, rfl⟩⟩; (try first | exact ⟨rfl, _, World.drewN_drewN _ _ _⟩ | exact ⟨rfl, _, Eq.trans (World.drewN_drewN _ _ _) (congrArg (World.drewN _) (Nat.add_assoc _ _ _))⟩); have p11 : 0 ≤ (1 : Int) := (by omega); have q11 : 1 < a0.size := (by have : (1 : Int) < (a0.size : Int) := of_decide_eq_true (by first | (with_reducible assumption) | assumption); omega); have hx11 : ∀ h : 1 < a0.size, ((a0[1]'h).toNat : Int) = bt a0 1 := bt_at a0 1; clear p11; have qi11 : (1 < (a0.size : Int)) = True := eq_true (of_decide_eq_true (by first | (with_reducible assumption) | assumption)); replace q11 := eq_true q11) | (go_at_call 47; (with_reducible refine (strings_IndexByte.calls (⟨#[48, 49, 50, 51, 52, 53, 54, 55, 56, 57, 65, 66, 67, 68, 69, 70]⟩ : ByteArray) (bt a0 1) t121 _ A12.out).mono ?_); rintro e w' ⟨rfl, ⟨nd, rfl⟩⟩; (try first | exact ⟨rfl, _, World.drewN_drewN _ _ _⟩ | exact ⟨rfl, _, Eq.trans (World.drewN_drewN _ _ _) (congrArg (World.drewN _) (Nat.add_assoc _ _ _))⟩)) | (go_at_call 48; (with_reducible refine (codepoint_Parse.calls kj1 (a0.extract 3 a0.size) t122 t123 _ A14.out).mono ?_); rintro e w20 ⟨rfl, hb⟩; have n0_ := Aside0.mk (below_step (by repeat (first | (with_reducible first | exact HB.out | apply below_alloc | apply pw_below_drewN | apply below_drew1) | exact HB.out)) hb); clear HB; have HB := n0_; clear n0_; (try clear hb); (try clear hb2); (try clear hk); (try clear hi))); try go_wp2_with (first | (go_at_call 47; (with_reducible refine (strings_IndexByte.calls (⟨#[48, 49, 50, 51, 52, 53, 54, 55, 56, 57, 65, 66, 67, 68, 69, 70]⟩ : ByteArray) (bt a0 0) t120 _ A9.out).mono ?_); rintro e w' ⟨rfl, ⟨nd, rfl⟩⟩; (try first | exact ⟨rfl, _, World.drewN_drewN _ _ _⟩ | exact ⟨rfl, _, Eq.trans (World.drewN_drewN _ _ _) (congrArg (World.drewN _) (Nat.add_assoc _ _ _))⟩); have p11 : 0 ≤ (1 : Int) := (by omega); have q11 : 1 < a0.size := (by have : (1 : Int) < (a0.size : Int) := of_decide_eq_true (by first | (with_reducible assumption) | assumption); omega); have hx11 : ∀ h : 1 < a0.size, ((a0[1]'h).toNat : Int) = bt a0 1 := bt_at a0 1; clear p11; have qi11 : (1 < (a0.size : Int)) = True := eq_true (of_decide_eq_true (by first | (with_reducible assumption) | assumption)); replace q11 := eq_true q11) | (go_at_call 47; (with_reducible refine (strings_IndexByte.calls (⟨#[48, 49, 50, 51, 52, 53, 54, 55, 56, 57, 65, 66, 67, 68, 69, 70]⟩ : ByteArray) (bt a0 1) t121 _ A12.out).mono ?_); rintro e w' ⟨rfl, ⟨nd, rfl⟩⟩; (try first | exact ⟨rfl, _, World.drewN_drewN _ _ _⟩ | exact ⟨rfl, _, Eq.trans (World.drewN_drewN _ _ _) (congrArg (World.drewN _) (Nat.add_assoc _ _ _))⟩)) | (go_at_call 48; (with_reducible refine (codepoint_Parse.calls kj1 (a0.extract 3 a0.size) t122 t123 _ A14.out).mono ?_); rintro e w20 ⟨rfl, hb⟩; have n0_ := Aside0.mk (below_step (by repeat (first | (with_reducible first | exact HB.out | apply below_alloc | apply pw_below_drewN | apply below_drew1) | exact HB.out)) hb); clear HB; have HB := n0_; clear n0_; (try clear hb); (try clear hb2); (try clear hk); (try clear hi))))
                    go_ret3
                    exact ⟨by first | rfl | (simp [errW_none, errW_some] <;> rfl) | (simp [*, errW_none, errW_some] <;> rfl), by repeat (first | (with_reducible first | exact HB.out | apply below_alloc | apply pw_below_drewN | apply below_drew1) | exact HB.out)⟩
                · rw [if_neg c16] at H
                  have c16b0 : decide (0 ≤ t121) = false := decide_eq_false c16
                  clear c16
                  simp only [Option.some.injEq, Prod.mk.injEq] at H
                  obtain ⟨rfl, rfl, rfl⟩ := H
                  have p8 : 0 ≤ (0 : Int) := (by omega)
                  have q8 : 0 < a0.size := (by have : (0 : Int) < (a0.size : Int) := of_decide_eq_true (by first | (with_reducible assumption) | assumption); omega)
                  have hx8 : ∀ h : 0 < a0.size, ((a0[0]'h).toNat : Int) = bt a0 0 := bt_at a0 0
                  clear p8
                  have qi8 : (0 < (a0.size : Int)) = True := eq_true (of_decide_eq_true (by first | (with_reducible assumption) | assumption))
                  replace q8 := eq_true q8
                  go_wp2_with (first | (go_at_call 47; (with_reducible refine (strings_IndexByte.calls (⟨#[48, 49, 50, 51, 52, 53, 54, 55, 56, 57, 65, 66, 67, 68, 69, 70]⟩ : ByteArray) (bt a0 0) t120 _ A9.out).mono ?_); rintro e w' ⟨rfl, ⟨nd, rfl⟩⟩; (try first | exact ⟨rfl, _, World.drewN_drewN _ _ _⟩ | exact ⟨rfl, _, Eq.trans (World.drewN_drewN _ _ _) (congrArg (World.drewN _) (Nat.add_assoc _ _ _))⟩); have p11 : 0 ≤ (1 : Int) := (by omega); have q11 : 1 < a0.size := (by have : (1 : Int) < (a0.size : Int) := of_decide_eq_true (by first | (with_reducible assumption) | assumption); omega); have hx11 : ∀ h : 1 < a0.size, ((a0[1]'h).toNat : Int) = bt a0 1 := bt_at a0 1; clear p11; have qi11 : (1 < (a0.size : Int)) = True := eq_true (of_decide_eq_true (by first | (with_reducible assumption) | assumption)); replace q11 := eq_true q11) | (go_at_call 47; (with_reducible refine (strings_IndexByte.calls (⟨#[48, 49, 50, 51, 52, 53, 54, 55, 56, 57, 65, 66, 67, 68, 69, 70]⟩ : ByteArray) (bt a0 1) t121 _ A12.out).mono ?_); rintro e w' ⟨rfl, ⟨nd, rfl⟩⟩; (try first | exact ⟨rfl, _, World.drewN_drewN _ _ _⟩ | exact ⟨rfl, _, Eq.trans (World.drewN_drewN _ _ _) (congrArg (World.drewN _) (Nat.add_assoc _ _ _))⟩)) | (go_at_call 48; (with_reducible refine (codepoint_Parse.calls kj1 (a0.extract 3 a0.size) t122 t123 _ A14.out).mono ?_); rintro e w21 ⟨rfl, hb⟩; have n0_ := Aside0.mk (below_step (by repeat (first | (with_reducible first | exact HB.out | apply below_alloc | apply pw_below_drewN | apply below_drew1) | exact HB.out)) hb); clear HB; have HB := n0_; clear n0_; (try clear hb); (try clear hb2); (try clear hk); (try clear hi)))
                  repeat (go_quiet (first | (go_at_call 47; (with_reducible refine (strings_IndexByte.calls (⟨#[48, 49, 50, 51, 52, 53, 54, 55, 56, 57, 65, 66, 67, 68, 69, 70]⟩ : ByteArray) (bt a0 0) t120 _ A9.out).mono ?_); rintro e w' ⟨rfl, ⟨nd, rfl⟩⟩; (try first | exact ⟨rfl, _, World.drewN_drewN _ _ _⟩ | exact ⟨rfl, _, Eq.trans (World.drewN_drewN _ _ _) (congrArg (World.drewN _) (Nat.add_assoc _ _ _))⟩); have p11 : 0 ≤ (1 : Int) := (by omega); have q11 : 1 < a0.size := (by have : (1 : Int) < (a0.size : Int) := of_decide_eq_true (by first | (with_reducible assumption) | assumption); omega); have hx11 : ∀ h : 1 < a0.size, ((a0[1]'h).toNat : Int) = bt a0 1 := bt_at a0 1; clear p11; have qi11 : (1 < (a0.size : Int)) = True := eq_true (of_decide_eq_true (by first | (with_reducible assumption) | assumption)); replace q11 := eq_true q11) | (go_at_call 47; (with_reducible refine (strings_IndexByte.calls (⟨#[48, 49, 50, 51, 52, 53, 54, 55, 56, 57, 65, 66, 67, 68, 69, 70]⟩ : ByteArray) (bt a0 1) t121 _ A12.out).mono ?_); rintro e w' ⟨rfl, ⟨nd, rfl⟩⟩; (try first | exact ⟨rfl, _, World.drewN_drewN _ _ _⟩ | exact ⟨rfl, _, Eq.trans (World.drewN_drewN _ _ _) (congrArg (World.drewN _) (Nat.add_assoc _ _ _))⟩)) | (go_at_call 48; (with_reducible refine (codepoint_Parse.calls kj1 (a0.extract 3 a0.size) t122 t123 _ A14.out).mono ?_); rintro e w21 ⟨rfl, hb⟩; have n0_ := Aside0.mk (below_step (by repeat (first | (with_reducible first | exact HB.out | apply below_alloc | apply pw_below_drewN | apply below_drew1) | exact HB.out)) hb); clear HB; have HB := n0_; clear n0_; (try clear hb); (try clear hb2); (try clear hk); (try clear hi))); try go_wp2_with (first | (go_at_call 47; (with_reducible refine (strings_IndexByte.calls (⟨#[48, 49, 50, 51, 52, 53, 54, 55, 56, 57, 65, 66, 67, 68, 69, 70]⟩ : ByteArray) (bt a0 0) t120 _ A9.out).mono ?_); rintro e w' ⟨rfl, ⟨nd, rfl⟩⟩; (try first | exact ⟨rfl, _, World.drewN_drewN _ _ _⟩ | exact ⟨rfl, _, Eq.trans (World.drewN_drewN _ _ _) (congrArg (World.drewN _) (Nat.add_assoc _ _ _))⟩); have p11 : 0 ≤ (1 : Int) := (by omega); have q11 : 1 < a0.size := (by have : (1 : Int) < (a0.size : Int) := of_decide_eq_true (by first | (with_reducible assumption) | assumption); omega); have hx11 : ∀ h : 1 < a0.size, ((a0[1]'h).toNat : Int) = bt a0 1 := bt_at a0 1; clear p11; have qi11 : (1 < (a0.size : Int)) = True := eq_true (of_decide_eq_true (by first | (with_reducible assumption) | assumption)); replace q11 := eq_true q11) | (go_at_call 47; (with_reducible refine (strings_IndexByte.calls (⟨#[48, 49, 50, 51, 52, 53, 54, 55, 56, 57, 65, 66, 67, 68, 69, 70]⟩ : ByteArray) (bt a0 1) t121 _ A12.out).mono ?_); rintro e w' ⟨rfl, ⟨nd, rfl⟩⟩; (try first | exact ⟨rfl, _, World.drewN_drewN _ _ _⟩ | exact ⟨rfl, _, Eq.trans (World.drewN_drewN _ _ _) (congrArg (World.drewN _) (Nat.add_assoc _ _ _))⟩)) | (go_at_call 48; (with_reducible refine (codepoint_Parse.calls kj1 (a0.extract 3 a0.size) t122 t123 _ A14.out).mono ?_); rintro e w21 ⟨rfl, hb⟩; have n0_ := Aside0.mk (below_step (by repeat (first | (with_reducible first | exact HB.out | apply below_alloc | apply pw_below_drewN | apply below_drew1) | exact HB.out)) hb); clear HB; have HB := n0_; clear n0_; (try clear hb); (try clear hb2); (try clear hk); (try clear hi))))
                  go_ret3
                  exact ⟨by first | rfl | (simp [errW_none, errW_some] <;> rfl) | (simp [*, errW_none, errW_some] <;> rfl), by repeat (first | (with_reducible first | exact HB.out | apply below_alloc | apply pw_below_drewN | apply below_drew1) | exact HB.out)⟩
              · rw [if_neg c15] at H
                have c15b0 : decide (0 ≤ t120) = false := decide_eq_false c15
                clear c15
                simp only [Option.some.injEq, Prod.mk.injEq] at H
                obtain ⟨rfl, rfl, rfl⟩ := H
                have p8 : 0 ≤ (0 : Int) := (by omega)
                have q8 : 0 < a0.size := (by have : (0 : Int) < (a0.size : Int) := of_decide_eq_true (by first | (with_reducible assumption) | assumption); omega)
                have hx8 : ∀ h : 0 < a0.size, ((a0[0]'h).toNat : Int) = bt a0 0 := bt_at a0 0
                clear p8
                have qi8 : (0 < (a0.size : Int)) = True := eq_true (of_decide_eq_true (by first | (with_reducible assumption) | assumption))
                replace q8 := eq_true q8
                go_wp2_with (first | (go_at_call 47; (with_reducible refine (strings_IndexByte.calls (⟨#[48, 49, 50, 51, 52, 53, 54, 55, 56, 57, 65, 66, 67, 68, 69, 70]⟩ : ByteArray) (bt a0 0) t120 _ A9.out).mono ?_); rintro e w' ⟨rfl, ⟨nd, rfl⟩⟩; (try first | exact ⟨rfl, _, World.drewN_drewN _ _ _⟩ | exact ⟨rfl, _, Eq.trans (World.drewN_drewN _ _ _) (congrArg (World.drewN _) (Nat.add_assoc _ _ _))⟩); have p11 : 0 ≤ (1 : Int) := (by omega); have q11 : 1 < a0.size := (by have : (1 : Int) < (a0.size : Int) := of_decide_eq_true (by first | (with_reducible assumption) | assumption); omega); have hx11 : ∀ h : 1 < a0.size, ((a0[1]'h).toNat : Int) = bt a0 1 := bt_at a0 1; clear p11; have qi11 : (1 < (a0.size : Int)) = True := eq_true (of_decide_eq_true (by first | (with_reducible assumption) | assumption)); replace q11 := eq_true q11) | (go_at_call 47; (with_reducible refine (strings_IndexByte.calls (⟨#[48, 49, 50, 51, 52, 53, 54, 55, 56, 57, 65, 66, 67, 68, 69, 70]⟩ : ByteArray) (bt a0 1) t121 _ A12.out).mono ?_); rintro e w' ⟨rfl, ⟨nd, rfl⟩⟩; (try first | exact ⟨rfl, _, World.drewN_drewN _ _ _⟩ | exact ⟨rfl, _, Eq.trans (World.drewN_drewN _ _ _) (congrArg (World.drewN _) (Nat.add_assoc _ _ _))⟩)) | (go_at_call 48; (with_reducible refine (codepoint_Parse.calls kj1 (a0.extract 3 a0.size) t122 t123 _ A14.out).mono ?_); rintro e w22 ⟨rfl, hb⟩; have n0_ := Aside0.mk (below_step (by repeat (first | (with_reducible first | exact HB.out | apply below_alloc | apply pw_below_drewN | apply below_drew1) | exact HB.out)) hb); clear HB; have HB := n0_; clear n0_; (try clear hb); (try clear hb2); (try clear hk); (try clear hi)))
                repeat (go_quiet (first | (go_at_call 47; (with_reducible refine (strings_IndexByte.calls (⟨#[48, 49, 50, 51, 52, 53, 54, 55, 56, 57, 65, 66, 67, 68, 69, 70]⟩ : ByteArray) (bt a0 0) t120 _ A9.out).mono ?_); rintro e w' ⟨rfl, ⟨nd, rfl⟩⟩; (try first | exact ⟨rfl, _, World.drewN_drewN _ _ _⟩ | exact ⟨rfl, _, Eq.trans (World.drewN_drewN _ _ _) (congrArg (World.drewN _) (Nat.add_assoc _ _ _))⟩); have p11 : 0 ≤ (1 : Int) := (by omega); have q11 : 1 < a0.size := (by have : (1 : Int) < (a0.size : Int) := of_decide_eq_true (by first | (with_reducible assumption) | assumption); omega); have hx11 : ∀ h : 1 < a0.size, ((a0[1]'h).toNat : Int) = bt a0 1 := bt_at a0 1; clear p11; have qi11 : (1 < (a0.size : Int)) = True := eq_true (of_decide_eq_true (by first | (with_reducible assumption) | assumption)); replace q11 := eq_true q11) | (go_at_call 47; (with_reducible refine (strings_IndexByte.calls (⟨#[48, 49, 50, 51, 52, 53, 54, 55, 56, 57, 65, 66, 67, 68, 69, 70]⟩ : ByteArray) (bt a0 1) t121 _ A12.out).mono ?_); rintro e w' ⟨rfl, ⟨nd, rfl⟩⟩; (try first | exact ⟨rfl, _, World.drewN_drewN _ _ _⟩ | exact ⟨rfl, _, Eq.trans (World.drewN_drewN _ _ _) (congrArg (World.drewN _) (Nat.add_assoc _ _ _))⟩)) | (go_at_call 48; (with_reducible refine (codepoint_Parse.calls kj1 (a0.extract 3 a0.size) t122 t123 _ A14.out).mono ?_); rintro e w22 ⟨rfl, hb⟩; have n0_ := Aside0.mk (below_step (by repeat (first | (with_reducible first | exact HB.out | apply below_alloc | apply pw_below_drewN | apply below_drew1) | exact HB.out)) hb); clear HB; have HB := n0_; clear n0_; (try clear hb); (try clear hb2); (try clear hk); (try clear hi))); try go_wp2_with (first | (go_at_call 47; (with_reducible refine (strings_IndexByte.calls (⟨#[48, 49, 50, 51, 52, 53, 54, 55, 56, 57, 65, 66, 67, 68, 69, 70]⟩ : ByteArray) (bt a0 0) t120 _ A9.out).mono ?_); rintro e w' ⟨rfl, ⟨nd, rfl⟩⟩; (try first | exact ⟨rfl, _, World.drewN_drewN _ _ _⟩ | exact ⟨rfl, _, Eq.trans (World.drewN_drewN _ _ _) (congrArg (World.drewN _) (Nat.add_assoc _ _ _))⟩); have p11 : 0 ≤ (1 : Int) := (by omega); have q11 : 1 < a0.size := (by have : (1 : Int) < (a0.size : Int) := of_decide_eq_true (by first | (with_reducible assumption) | assumption); omega); have hx11 : ∀ h : 1 < a0.size, ((a0[1]'h).toNat : Int) = bt a0 1 := bt_at a0 1; clear p11; have qi11 : (1 < (a0.size : Int)) = True := eq_true (of_decide_eq_true (by first | (with_reducible assumption) | assumption)); replace q11 := eq_true q11) | (go_at_call 47; (with_reducible refine (strings_IndexByte.calls (⟨#[48, 49, 50, 51, 52, 53, 54, 55, 56, 57, 65, 66, 67, 68, 69, 70]⟩ : ByteArray) (bt a0 1) t121 _ A12.out).mono ?_); rintro e w' ⟨rfl, ⟨nd, rfl⟩⟩; (try first | exact ⟨rfl, _, World.drewN_drewN _ _ _⟩ | exact ⟨rfl, _, Eq.trans (World.drewN_drewN _ _ _) (congrArg (World.drewN _) (Nat.add_assoc _ _ _))⟩)) | (go_at_call 48; (with_reducible refine (codepoint_Parse.calls kj1 (a0.extract 3 a0.size) t122 t123 _ A14.out).mono ?_); rintro e w22 ⟨rfl, hb⟩; have n0_ := Aside0.mk (below_step (by repeat (first | (with_reducible first | exact HB.out | apply below_alloc | apply pw_below_drewN | apply below_drew1) | exact HB.out)) hb); clear HB; have HB := n0_; clear n0_; (try clear hb); (try clear hb2); (try clear hk); (try clear hi))))
                go_ret3
                exact ⟨by first | rfl | (simp [errW_none, errW_some] <;> rfl) | (simp [*, errW_none, errW_some] <;> rfl), by repeat (first | (with_reducible first | exact HB.out | apply below_alloc | apply pw_below_drewN | apply below_drew1) | exact HB.out)⟩
            · rw [if_neg c13] at H
              exact absurd H (by simp)
          · rw [if_neg c10] at H
            exact absurd H (by simp)
        · rw [if_neg c7] at H
          exact absurd H (by simp)

/-! ### charset_Parse: function 14 -/
/-- the codes of lines: what is set so far, and which characters have been met -/
def parseG : List ByteArray → Nat → List Int → List Int → Option (List Int × Int × Int)
  | [], _, codes, _ => some (codes, 0, 0)
  | l :: r, i, codes, seen =>
    if l.toList = [] then parseG r (i + 1) codes seen
    else (charset_line.f 100 l).bind fun t =>
      if t.2.2 = true then (if 0 ≤ t.1 ∧ t.1 < 256 ∧ -9223372036854775808 ≤ t.2.1 ∧ t.2.1 ≤ 9223372036854775807 then (if codes.getD t.1.toNat 0 = -1 ∧ (seen.any fun y => decide (y = t.2.1)) = false then parseG r (i + 1) (codes.set t.1.toNat t.2.1) (seen ++ [t.2.1]) else some ([], 5, ((i + 1 : Nat) : Int))) else none)
      else some ([], 3, ((i + 1 : Nat) : Int))
def charset_Parse.f (a0 : ByteArray) : Option (List Int × Int × Int) := if a0.size > 65536 then some ([], 2, 0) else parseG (linesB a0) 0 (List.replicate 256 (-1)) []
theorem ownI {w : World} {B base : Nat} {l : List Int} (h : w.heap[B]? = some (.cells (cellsI l).toArray 3 (0, 0))) (hb : base ≤ B) (hl : l.length ≤ 1000) : Kd.R (Kd.int .i64) 3 w base (fun _ => True) (.slice (some ⟨B, 0, none⟩) l.length l.length) l := by
  have hlt : B < w.heap.size := by
    by_cases hc : B < w.heap.size
    · exact hc
    · rw [Array.getElem?_eq_none (by omega)] at h; cases h
  refine Kd.R_of_own (enc := Value.int .i64) (h1 := fun _ => rfl) ⟨by simp [encs], .inr ⟨B, l.length, (cellsI l).toArray, rfl, hb, h, Nat.le_refl _, by unfold maxLen; omega, by simp [cellsI], ?_⟩⟩ (fun _ _ => trivial)
  simp [encs, cellsI]
  exact List.take_of_length_le (by simp)
theorem dropL (l : List ByteArray) (k : Nat) (h : k < l.length) : l.drop k = rdOf ByteArray.empty l (k : Int) :: l.drop (k + 1) := drop_at l ByteArray.empty k h
theorem oneI (W : World) (x : Int) : Kd.C (Kd.int .i64) (W.alloc (.cells #[.int .i64 x] 3)) (some ⟨W.heap.size, 0, none⟩) 1 [x] := by
  have h := ownI (w := W.alloc (.cells #[.int .i64 x] 3)) (B := W.heap.size) (base := 0) (l := [x]) (MapKept.heap_alloc W _).1 (Nat.zero_le _) (by simp)
  exact (Kd.R_reads' h).2.2
theorem cellsI_at (l : List Int) (n : Nat) (h : n < l.length) : (cellsI l).toArray[n]? = some (.int .i64 (l.getD n 0)) := by
  simp [cellsI, h]
theorem cellsI_set (l : List Int) (n : Nat) (x : Int) : (cellsI l).toArray.setIfInBounds n (.int .i64 x) = (cellsI (l.set n x)).toArray := by
  simp [cellsI, List.map_set]
theorem two_new (w : World) (o1 o2 : Obj) : ((w.alloc o1).alloc o2).heap[w.heap.size]? = some o1 ∧ ((w.alloc o1).alloc o2).heap[w.heap.size + 1]? = some o2 := by
  have e : w.heap.size + 1 = (w.alloc o1).heap.size := by simp
  refine ⟨blk_alloc (blk_new w o1) o2, ?_⟩
  rw [e]; exact blk_new _ _
def ResAt (P : Program) (w wr : World) : Prop := wr.heap[w.heap.size]? = some (.cells #[.slice none 0 0] 24 (0, 0)) ∧ wr.heap[w.heap.size + 1]? = some (.cells #[.int .i64 0, .int .i64 0] 30 (0, 0))
theorem ret_at {P : Program} {w w3 : World} (hz : ResAt P w w3) (v x y : Value) :
    (((w3.setCell ⟨w.heap.size, 0, none⟩ v).setCell ⟨w.heap.size + 1, 0, none⟩ x).setCell ⟨w.heap.size + 1, 1, none⟩ y).heap[w.heap.size]? = some (.cells #[v] 24 (0, 0)) ∧
    (((w3.setCell ⟨w.heap.size, 0, none⟩ v).setCell ⟨w.heap.size + 1, 0, none⟩ x).setCell ⟨w.heap.size + 1, 1, none⟩ y).heap[w.heap.size + 1]? = some (.cells #[x, y] 30 (0, 0)) :=
  ⟨blk_far (blk_far (blk_set hz.1 0 v) (by show w.heap.size ≠ w.heap.size + 1; omega) _) (by show w.heap.size ≠ w.heap.size + 1; omega) _, blk_set (blk_set (blk_far hz.2 (by show w.heap.size + 1 ≠ w.heap.size; omega) _) 0 x) 1 y⟩
theorem below_at {w w3 : World} (hb : Below w.heap.size w w3) (v x y : Value) : Below w.heap.size w (((w3.setCell ⟨w.heap.size, 0, none⟩ v).setCell ⟨w.heap.size + 1, 0, none⟩ x).setCell ⟨w.heap.size + 1, 1, none⟩ y) :=
  ((hb.setCell (Nat.le_refl _) _).setCell (Nat.le_succ _) _).setCell (Nat.le_succ _) _
set_option maxHeartbeats 6400000 in
set_option maxRecDepth 100000 in
theorem charset_Parse.calls (a0 : ByteArray) (r1 : List Int) (r2 : Int) (r3 : Int) (w : World) (h : charset_Parse.f a0 = some (r1, r2, r3)) :
    Calls Tryd.prog 14 #[.string a0] w fun e w' => ∃ v0_ : Value, e = .returned (.tuple #[.agg #[v0_], .agg #[.int .i64 r2, .int .i64 r3]]) ∧ Kd.R (Kd.int .i64) 3 w' w.heap.size (fun _ => True) v0_ r1 ∧ Below w.heap.size w w' := by
  unfold charset_Parse.f at h
  by_cases hs : a0.size > 65536
  · rw [if_pos hs] at h
    injection h with h
    injection h with h1 h2
    injection h2 with h2 h3
    subst h1; subst h2; subst h3
    go_enter Tryd.func14, Tryd.ntmps14
    go_wp2
    refine bodyPost_ret (results_cc rfl _ _ w.heap.size (w.heap.size + 1) 24 30 #[.slice none 0 0] #[.int .i64 2, .int .i64 0] (0, 0) (0, 0) _ _ rfl (two_new w _ _).1 Tryd.underlying24 rfl (by kernel_rfl) rfl (two_new w _ _).2 Tryd.underlying30 rfl (by kernel_rfl)) rfl ?_
    exact ⟨_, rfl, Kd.R_nil _ _ _ _ _, below_alloc (below_alloc (Below.refl _ _) _) _⟩
  rw [if_neg hs] at h
  have hsp : strings_Split.f a0 ⟨#[10]⟩ = some (linesB a0) := by unfold strings_Split.f; rw [if_pos (by omega), if_pos rfl]
  have hll : (linesB a0).length ≤ 65537 := by
    rw [lines_len]
    have := Go.Lib.countB_le ⟨#[10]⟩ (by decide) a0.size a0 (Nat.le_refl _)
    omega
  generalize hL : linesB a0 = L at h hsp hll
  have HSP := Aside0.mk hsp
  have HH := Aside0.mk h
  clear h hsp hL
  have hC1 : Kd.C (Kd.int .i64) (((w.alloc (.cells #[.slice none 0 0] 24)).alloc (.cells #[.int .i64 0, .int .i64 0] 30)).alloc (.cells #[.int .i64 (-1)] 3)) (some ⟨w.heap.size + 1 + 1, 0, none⟩) 1 [-1] := by
    rw [show w.heap.size + 1 + 1 = ((w.alloc (.cells #[.slice none 0 0] 24)).alloc (.cells #[.int .i64 0, .int .i64 0] 30)).heap.size from by simp]
    exact oneI _ _
  have HC1 := Aside0.mk hC1
  have HLL := Aside0.mk hll
  have hs2 : ¬ (65536 : Int) < (a0.size : Int) := by omega
  clear hs hC1 hll
  have hmm := @run_makeMap Tryd.prog
  go_enter Tryd.func14, Tryd.ntmps14
  go_wp2_with (first | (go_at_call 32; refine (repeat_calls _ _ (-1) _ HC1.out (Nat.le_refl _)).mono ?_; rintro e w1 ⟨B, rfl, hB1, hB2, hb⟩) | (go_at_call 33; refine (strings_Split.calls _ _ _ _ HSP.out).mono ?_; rintro e w2 ⟨v, rfl, hR, hb2⟩; obtain ⟨Av, cv, ev⟩ := Kd.R_slice hR; subst ev))
  have hsz : w.heap.size + 2 ≤ w1.heap.size := by have := hb.size; simp at this; omega
  have hBl : B < w1.heap.size := blk_lt hB2
  have hBg : w.heap.size + 2 < B := by simp at hB1; omega
  have hz0 : ResAt Tryd.prog w (((w.alloc (.cells #[.slice none 0 0] 24)).alloc (.cells #[.int .i64 0, .int .i64 0] 30)).alloc (.cells #[.int .i64 (-1)] 3)) := ⟨blk_alloc (two_new w _ _).1 _, blk_alloc (two_new w _ _).2 _⟩
  have HZ := Aside0.mk (show ResAt Tryd.prog w w2 from ⟨blk_below (blk_alloc (blk_below hz0.1 hb) _) hb2, blk_below (blk_alloc (blk_below hz0.2 hb) _) hb2⟩)
  have HB := Aside0.mk (show Below w.heap.size w w2 from (below_alloc ((below_alloc (below_alloc (below_alloc (Below.refl _ w) _) _) _).trans (hb.mono (by simp; omega))) _).trans (hb2.mono (by simp; omega)))
  have HCo := Aside0.mk (blk_below (blk_alloc hB2 (.map #[] 0)) hb2)
  have HM := Aside0.mk ((MapIs.made (enc := encI) w1 Tryd.prog 3).below hb2)
  have HR := Aside0.mk (Kd.R_lower hR (Nat.zero_le _))
  clear hz0 hb hb2 hB2 hR hB1
  go_loopw [22] (fun i wr => ∃ (k : Nat) (codes seen : List Int) (f : Int → Option Value), k ≤ L.length ∧ i = .int .i64 k ∧ Aside0 (codes.length = 256) ∧ Aside0 (wr.heap[B]? = some (.cells (cellsI codes).toArray 3 (0, 0))) ∧ Aside0 (MapIs encI wr Tryd.prog 3 w1.heap.size k f) ∧ Aside0 (∀ x, f x = if (seen.any fun y => decide (y = x)) = true then some (.bool true) else none) ∧ Aside0 (parseG (L.drop k) k codes seen = some (r1, r2, r3)) ∧ Aside0 (ResAt Tryd.prog w wr) ∧ Aside0 (Kd.R Kd.string 9 wr 0 (fun _ => True) (.slice Av L.length cv) L) ∧ Aside0 (Below w.heap.size w wr)) (fun i _ => L.length - (intOf i).toNat)
  case atStart => exact ⟨0, List.replicate 256 (-1), [], fun _ => none, Nat.zero_le _, rfl, ⟨List.length_replicate ..⟩, HCo, HM, ⟨fun _ => rfl⟩, HH, HZ, HR, HB⟩
  case round =>
    obtain ⟨k, codes, seen, f, hk, rfl, hcl, hC, hM, hF, hG, hZ, hR, hB⟩ := hrel
    have hkl : k ≤ 65537 := Nat.le_trans hk HLL.out
    have hwk : IntKind.i64.wrap ((k : Int) + 1) = ((k + 1 : Nat) : Int) := by rw [IntKind.wrap_i64]; omega
    have HW := Aside0.mk hwk
    clear hwk
    by_cases hlt : k < L.length
    · obtain ⟨ad, e, x0⟩ := Kd.at_string (Kd.R_reads' hR.out).2.2 (k : Int) (by omega) (by omega)
      cases e
      obtain ⟨x, hx⟩ : ∃ x, x = rdOf ByteArray.empty L (k : Int) := ⟨_, rfl⟩
      rw [← hx, show ((k : Int)).toNat = k from rfl] at x0
      have hdr := dropL L k hlt
      rw [← hx] at hdr
      have hg := hG.out
      rw [hdr, parseG] at hg
      clear hdr hx
      by_cases hle : x.toList = []
      · rw [if_pos hle] at hg
        have HG := Aside0.mk hg
        clear hg
        go_wp2
        go_roundw
        case rel => exact ⟨k + 1, codes, seen, f, by omega, by go_num, hcl, hC, ⟨hM.out.mono (Nat.le_succ _)⟩, hF, HG, hZ, hR, hB⟩
        case measure => simp [intOf]; omega
      · rw [if_neg hle] at hg
        cases hl : charset_line.f 100 x with
        | none => rw [hl] at hg; cases hg
        | some t =>
          obtain ⟨b, c, ok⟩ := t
          rw [hl, Option.bind_some] at hg
          have HL := Aside0.mk hl
          have hle2 : (x.toList == []) = false := by cases hq : x.toList with
            | nil => exact absurd hq hle
            | cons => rfl
          clear hl hle
          cases ok with
          | false =>
            have hg : some (([] : List Int), (3 : Int), ((k + 1 : Nat) : Int)) = some (r1, r2, r3) := hg
            injection hg with hg
            injection hg with g1 g2
            injection g2 with g2 g3
            have G3 := Aside0.mk g3
            subst g1; subst g2
            clear g3
            go_wp2_with (go_at_call 34; refine (charset_line.calls 100 _ _ _ _ _ HL.out).mono ?_; rintro e w3 ⟨rfl, hb3⟩; have hz3 : ResAt Tryd.prog w w3 := ⟨blk_below hZ.out.1 hb3, blk_below hZ.out.2 hb3⟩; have z0 := blk_cell (hz3.1) 0; have z1 := blk_cell (hz3.2) 0; have z2 := blk_cell (hz3.2) 1; have fz0 := blk_frozen (hz3.1) 0; have fz1 := blk_frozen (hz3.2) 0; have fz2 := blk_frozen (hz3.2) 1)
            refine bodyPost_ret (results_cc rfl _ _ w.heap.size (w.heap.size + 1) 24 30 _ _ (0, 0) (0, 0) _ _ rfl (ret_at (P := Tryd.prog) hz3 _ _ _).1 Tryd.underlying24 rfl (by kernel_rfl) rfl (ret_at (P := Tryd.prog) hz3 _ _ _).2 Tryd.underlying30 rfl (by kernel_rfl)) rfl ?_
            exact ⟨.slice none 0 0, by rw [← G3.out]; rfl, Kd.R_nil _ _ _ _ _, below_at (hB.out.trans (hb3.mono hB.out.size)) _ _ _⟩
          | true =>
            have hg : (if 0 ≤ b ∧ b < 256 ∧ -9223372036854775808 ≤ c ∧ c ≤ 9223372036854775807 then (if codes.getD b.toNat 0 = -1 ∧ (seen.any fun y => decide (y = c)) = false then parseG (L.drop (k + 1)) (k + 1) (codes.set b.toNat c) (seen ++ [c]) else some ([], 5, ((k + 1 : Nat) : Int))) else none) = some (r1, r2, r3) := hg
            by_cases hbc : 0 ≤ b ∧ b < 256 ∧ -9223372036854775808 ≤ c ∧ c ≤ 9223372036854775807
            case neg => rw [if_neg hbc] at hg; cases hg
            rw [if_pos hbc] at hg
            obtain ⟨hb0, hb1, hc0, hc1⟩ := hbc
            obtain ⟨n, rfl⟩ := Int.eq_ofNat_of_zero_le hb0
            rw [Int.toNat_natCast] at hg
            have HK := Aside0.mk (key_int c ⟨hc0, hc1⟩)
            have hn : n < 256 := by omega
            have cn : ∀ W : World, W.heap[B]? = some (.cells (cellsI codes).toArray 3 (0, 0)) → W.cell? ⟨B, n, none⟩ = some (.int .i64 (codes.getD n 0)) := fun W hW => (blk_cell hW n).trans (cellsI_at codes n (by rw [hcl.out]; exact hn))
            have CN := Aside0.mk cn
            generalize hq : codes.getD n 0 = q at hg cn CN
            have HQ := Aside0.mk hq
            clear cn hc0 hc1 hq
            by_cases hq : q = -1
            · by_cases hsn : (seen.any fun y => decide (y = c)) = false
              · rw [if_pos ⟨hq, hsn⟩] at hg
                have hfx : f c = none := by rw [hF.out c, hsn, if_neg (by decide)]
                have HG := Aside0.mk hg
                have HS := Aside0.mk hsn
                subst hq
                clear hg hsn
                go_wp2_with (first | (go_at_call 34; refine (charset_line.calls 100 _ _ _ _ _ HL.out).mono ?_; rintro e w3 ⟨rfl, hb3⟩; have hz3 : ResAt Tryd.prog w w3 := ⟨blk_below hZ.out.1 hb3, blk_below hZ.out.2 hb3⟩; have hc3 := CN.out w3 (blk_below hC.out hb3); have hlk := (hM.out.below hb3).look law_int Tryd.underlying43 (zero_bool _) HK.out; rw [hfx, Option.getD_none] at hlk; have fzc := blk_frozen (blk_below hC.out hb3) n; skip) | (at_mapUpdate; refine wpList_mapis_upd _ rfl _ _ _ 43 rfl 3 4 law_int Tryd.underlying43 w1.heap.size k f rfl ((hM.out.below hb3).setCell (a := ⟨B, n, none⟩) (by show w1.heap.size ≠ B; omega) (.int .i64 c)) encI_inj (by unfold maxLen; omega) _ _ c rfl rfl HK.out (encI_key c) ?_; intro w5 hM5 hg5))
                go_roundw
                case rel =>
                  have hC4 := (cellsI_set codes n c) ▸ blk_set (blk_below hC.out hb3) n (.int .i64 c)
                  refine ⟨k + 1, codes.set n c, seen ++ [c], _, by omega, by go_num, ⟨by rw [List.length_set]; exact hcl.out⟩, ⟨blk_grown hC4 hg5 (by intro e; injection e with e; omega)⟩, ⟨hM5⟩, ⟨fun y => ?_⟩, HG, ⟨?_⟩, ⟨?_⟩, ⟨?_⟩⟩
                  · rw [any_snoc]
                    by_cases hy : y = c
                    · subst hy; rw [if_pos rfl, decide_eq_true rfl, Bool.or_true, if_pos rfl]; rfl
                    · rw [if_neg hy, decide_eq_false (fun e => hy e.symm), Bool.or_false]; exact hF.out y
                  · exact ⟨blk_grown (blk_far hz3.1 (by show w.heap.size ≠ B; omega) _) hg5 (by intro e; injection e with e; omega), blk_grown (blk_far hz3.2 (by show w.heap.size + 1 ≠ B; omega) _) hg5 (by intro e; injection e with e; omega)⟩
                  · exact Kd.R_off_map (Kd.R_set (Kd.R_below hR.out hb3) (blk_below hC.out hb3) (by intro q hq e; revert hq; rw [e]; decide) n _) ((hM.out.below hb3).setCell (a := ⟨B, n, none⟩) (by show w1.heap.size ≠ B; omega) (.int .i64 c)) hg5
                  · have hb4 := (hB.out.trans (hb3.mono hB.out.size)).setCell (p := ⟨B, n, none⟩) (by show w.heap.size ≤ B; omega) (.int .i64 c)
                    exact hb4.grown hg5 hb4.size (fun j hj => by cases hj; omega)
                case measure => simp [intOf]; omega
              · have hsn' : (seen.any fun y => decide (y = c)) = true := by
                  cases hv : (seen.any fun y => decide (y = c)) with
                  | true => rfl
                  | false => exact absurd hv hsn
                have hfx : f c = some (.bool true) := by rw [hF.out c, hsn', if_pos rfl]
                rw [if_neg (fun hh => hsn hh.2)] at hg
                injection hg with hg
                injection hg with g1 g2
                injection g2 with g2 g3
                have G3 := Aside0.mk g3
                subst g1; subst g2; subst hq
                clear g3 hsn hsn'
                go_wp2_with (go_at_call 34; refine (charset_line.calls 100 _ _ _ _ _ HL.out).mono ?_; rintro e w3 ⟨rfl, hb3⟩; have hz3 : ResAt Tryd.prog w w3 := ⟨blk_below hZ.out.1 hb3, blk_below hZ.out.2 hb3⟩; have hc3 := CN.out w3 (blk_below hC.out hb3); have hlk := (hM.out.below hb3).look law_int Tryd.underlying43 (zero_bool _) HK.out; rw [hfx, Option.getD_some] at hlk; have fzc := blk_frozen (blk_below hC.out hb3) n; have z0 := blk_cell (hz3.1) 0; have z1 := blk_cell (hz3.2) 0; have z2 := blk_cell (hz3.2) 1; have fz0 := blk_frozen (hz3.1) 0; have fz1 := blk_frozen (hz3.2) 0; have fz2 := blk_frozen (hz3.2) 1)
                refine bodyPost_ret (results_cc rfl _ _ w.heap.size (w.heap.size + 1) 24 30 _ _ (0, 0) (0, 0) _ _ rfl (ret_at (P := Tryd.prog) hz3 _ _ _).1 Tryd.underlying24 rfl (by kernel_rfl) rfl (ret_at (P := Tryd.prog) hz3 _ _ _).2 Tryd.underlying30 rfl (by kernel_rfl)) rfl ?_
                exact ⟨.slice none 0 0, by rw [← G3.out]; rfl, Kd.R_nil _ _ _ _ _, below_at (hB.out.trans (hb3.mono hB.out.size)) _ _ _⟩
            · rw [if_neg (fun hh => hq hh.1)] at hg
              injection hg with hg
              injection hg with g1 g2
              injection g2 with g2 g3
              have G3 := Aside0.mk g3
              subst g1; subst g2
              clear g3
              go_wp2_with (go_at_call 34; refine (charset_line.calls 100 _ _ _ _ _ HL.out).mono ?_; rintro e w3 ⟨rfl, hb3⟩; have hz3 : ResAt Tryd.prog w w3 := ⟨blk_below hZ.out.1 hb3, blk_below hZ.out.2 hb3⟩; have hc3 := CN.out w3 (blk_below hC.out hb3); have z0 := blk_cell (hz3.1) 0; have z1 := blk_cell (hz3.2) 0; have z2 := blk_cell (hz3.2) 1; have fz0 := blk_frozen (hz3.1) 0; have fz1 := blk_frozen (hz3.2) 0; have fz2 := blk_frozen (hz3.2) 1)
              refine bodyPost_ret (results_cc rfl _ _ w.heap.size (w.heap.size + 1) 24 30 _ _ (0, 0) (0, 0) _ _ rfl (ret_at (P := Tryd.prog) hz3 _ _ _).1 Tryd.underlying24 rfl (by kernel_rfl) rfl (ret_at (P := Tryd.prog) hz3 _ _ _).2 Tryd.underlying30 rfl (by kernel_rfl)) rfl ?_
              exact ⟨.slice none 0 0, by rw [← G3.out]; rfl, Kd.R_nil _ _ _ _ _, below_at (hB.out.trans (hb3.mono hB.out.size)) _ _ _⟩
    · have hkL : L.drop k = [] := List.drop_of_length_le (by omega)
      have hg := hG.out
      rw [hkL, parseG] at hg
      injection hg with hg
      injection hg with g1 g2
      injection g2 with g2 g3
      subst g1; subst g2; subst g3
      clear hkL
      have hz3 := hZ.out
      have z0 := blk_cell (hz3.1) 0; have z1 := blk_cell (hz3.2) 0; have z2 := blk_cell (hz3.2) 1; have fz0 := blk_frozen (hz3.1) 0; have fz1 := blk_frozen (hz3.2) 0; have fz2 := blk_frozen (hz3.2) 1
      go_wp2
      refine bodyPost_ret (results_cc rfl _ _ w.heap.size (w.heap.size + 1) 24 30 _ _ (0, 0) (0, 0) _ _ rfl (ret_at (P := Tryd.prog) hz3 _ _ _).1 Tryd.underlying24 rfl (by kernel_rfl) rfl (ret_at (P := Tryd.prog) hz3 _ _ _).2 Tryd.underlying30 rfl (by kernel_rfl)) rfl ?_
      have hrow : ∀ W : World, W.heap[B]? = some (.cells (cellsI codes).toArray 3 (0, 0)) → Kd.R (Kd.int .i64) 3 W w.heap.size (fun _ => True) (.slice (some ⟨B, 0, none⟩) 256 256) codes := fun W hW => by
        have h := ownI (base := w.heap.size) hW (by omega) (by rw [hcl.out]; decide)
        rwa [hcl.out] at h
      exact ⟨_, rfl, hrow _ (blk_far (blk_far (blk_far hC.out (p := ⟨w.heap.size, 0, none⟩) (by show B ≠ w.heap.size; omega) _) (p := ⟨w.heap.size + 1, 0, none⟩) (by show B ≠ w.heap.size + 1; omega) _) (p := ⟨w.heap.size + 1, 1, none⟩) (by show B ≠ w.heap.size + 1; omega) _), below_at hB.out _ _ _⟩

/-! ### charset_open: function 24 -/
/-- the byte of a character: the last place of the codes that has it -/
def byteG : List Int → Nat → Option Int → Int → Option Int
  | [], _, acc, _ => acc
  | y :: r, i, acc, x => byteG r (i + 1) (if y = x ∧ ¬ y = -1 then some (i : Int) else acc) x
def byteOf (l : List Int) (x : Int) : Option Int := byteG l 0 none x
def u8V (x : Int) : Value := .int .u8 x
def keyI (x : Int) : Prop := -9223372036854775808 ≤ x ∧ x ≤ 9223372036854775807
theorem resT {P : Program} {fn : Func} {p : Tmp} {ty : TypeId} (h : fn.results = #[.cell p ty]) (tmps : Array Value) (w : World) (g : Nat) (t : TypeId) (cs : Array Value) (fr : Nat × Nat) (d : TypeDesc)
    (hp : tmps.getD p undef = .pointer (some ⟨g, 0, none⟩)) (hg : w.heap[g]? = some (.cells cs t fr))
    (hu : P.underlying ty = some d) (hd : (match d with | .struct _ | .array _ _ => true | _ => false) = true) (hi : (P.info? ty).map (·.size) = some cs.size) :
    (results fn tmps).run P w = .ok (.agg cs) w := by
  have hp' : tmps[p]?.getD undef = .pointer (some ⟨g, 0, none⟩) := by simpa using hp
  simp [results, h, hp', asAddr, run_loadVar_row w g t ty cs fr d hg hu hd hi]
set_option maxHeartbeats 3200000 in
set_option maxRecDepth 100000 in
theorem open_calls (A0 : Option Addr) (c0 : Nat) (l0 : List Int) (w : World) (hr0 : Kd.C (Kd.int .i64) w A0 l0.length l0) (hc0 : l0.length ≤ c0) (hz : intsB l0 = true) (hl : l0.length ≤ 256) :
    Calls Tryd.prog 24 #[.agg #[.slice A0 l0.length c0]] w fun e w' => ∃ (b : Nat) (f : Int → Option Value), e = .returned (.agg #[.map (some b)]) ∧ w.heap.size ≤ b ∧ MapIs encI w' Tryd.prog 3 b 256 f ∧ (∀ x, f x = (byteOf l0 x).map u8V) ∧ Below w.heap.size w w' := by
  have R0 := Aside0.mk hr0
  have HZ := Aside0.mk hz
  have HL := Aside0.mk hl
  clear hr0 hz hl
  have hmm := @run_makeMap Tryd.prog
  go_enter Tryd.func24, Tryd.ntmps24
  go_wp2
  have hs0 : ((w.alloc (.cells #[.slice A0 l0.length c0] 24)).alloc (.cells #[.map none] 48)).heap.size = w.heap.size + 1 + 1 := by simp
  have hs1 : (((w.alloc (.cells #[.slice A0 l0.length c0] 24)).alloc (.cells #[.map none] 48)).alloc (.map #[] 0)).heap.size = w.heap.size + 1 + 1 + 1 := by simp
  have HS0 := Aside0.mk hs0
  have HS1 := Aside0.mk hs1
  clear hs0 hs1
  go_loopw [11] (fun i wr => ∃ (k : Nat) (g : Int → Option Int) (f : Int → Option Value), k ≤ l0.length ∧ i = .int .i64 k ∧ Aside0 (MapIs encI wr Tryd.prog 3 (w.heap.size + 1 + 1) k f) ∧ Aside0 (∀ x, f x = (g x).map u8V) ∧ Aside0 (∀ x, byteG (l0.drop k) k (g x) x = byteOf l0 x) ∧ Aside0 (wr.heap[w.heap.size + 1]? = some (.cells #[.map none] 48 (0, 0))) ∧ Aside0 (wr.heap[w.heap.size + 1 + 1 + 1]? = some (.cells #[.map (some (w.heap.size + 1 + 1))] 48 (0, 0))) ∧ Aside0 (Below w.heap.size w wr)) (fun i _ => l0.length - (intOf i).toNat)
  case atStart =>
    refine ⟨0, fun _ => none, fun _ => none, Nat.zero_le _, rfl, ⟨?_⟩, ⟨fun _ => rfl⟩, ⟨fun _ => rfl⟩, ⟨blk_alloc (blk_alloc (two_new w _ _).2 _) _⟩, ⟨?_⟩, ⟨below_alloc (below_alloc (below_alloc (below_alloc (Below.refl _ _) _) _) _) _⟩⟩
    · have := MapIs.made (enc := encI) ((w.alloc (.cells #[.slice A0 l0.length c0] 24)).alloc (.cells #[.map none] 48)) Tryd.prog 3
      rw [HS0.out] at this
      exact this.alloc _
    · have := blk_new (((w.alloc (.cells #[.slice A0 l0.length c0] 24)).alloc (.cells #[.map none] 48)).alloc (.map #[] 0)) (.cells #[.map (some (w.heap.size + 1 + 1))] 48)
      rw [HS1.out] at this
      exact this
  case round =>
    obtain ⟨k, g, f, hk, rfl, hM, hF, hG, hT, hU, hB⟩ := hrel
    by_cases hlt : k < l0.length
    · obtain ⟨ad, e, x0⟩ := Kd.at_int (Kd.C_below R0.out hB.out) (k : Int) (by omega) (by omega)
      cases e
      obtain ⟨x, hx⟩ : ∃ x, x = rd l0 (k : Int) := ⟨_, rfl⟩
      rw [← hx, show ((k : Int)).toNat = k from rfl] at x0
      have hdrop : Aside0 (l0.drop k = x :: l0.drop (k + 1)) := ⟨by rw [hx]; exact drop_at l0 0 k hlt⟩
      have hwf : -9223372036854775808 ≤ x ∧ x ≤ 9223372036854775807 := by rw [hx]; exact ints_at HZ.out k
      have HK := Aside0.mk (key_int x hwf)
      have hu0 := blk_cell hU.out 0
      have hk256 : k < 256 := by have := HL.out; omega
      have HWU : Aside0 ((k : Int) % 256 = (k : Int)) := ⟨by omega⟩
      clear hx hwf
      by_cases hn : x = -1
      · subst hn
        go_wp2
        go_roundw
        case rel =>
          refine ⟨k + 1, g, f, by omega, by go_num, ⟨hM.out.mono (Nat.le_succ _)⟩, hF, ⟨fun y => ?_⟩, hT, hU, hB⟩
          have := hG.out y
          rw [hdrop.out, byteG, if_neg (fun h => h.2 rfl)] at this
          exact this
        case measure => simp [intOf]; omega
      · go_wp2_with (at_mapUpdate; refine wpList_mapis_upd _ rfl _ _ _ 46 rfl 3 5 law_int Tryd.underlying46 (w.heap.size + 1 + 1) k f rfl hM.out encI_inj (by unfold maxLen; have := HL.out; omega) _ _ x rfl rfl HK.out (encI_key x) ?_; intro w5 hM5 hg5)
        go_roundw
        case rel =>
          refine ⟨k + 1, fun y => if x = y ∧ ¬ x = -1 then some (k : Int) else g y, _, by omega, by go_num, ⟨hM5⟩, ⟨fun y => ?_⟩, ⟨fun y => ?_⟩, ⟨blk_grown hT.out hg5 (by intro e; injection e with e; omega)⟩, ⟨blk_grown hU.out hg5 (by intro e; injection e with e; omega)⟩, ⟨hB.out.grown hg5 hB.out.size (fun j hj => by cases hj; omega)⟩⟩
          · by_cases hy : y = x
            · subst hy
              rw [if_pos rfl]
              show some (Value.int .u8 (k : Int)) = Option.map u8V (if y = y ∧ ¬ y = -1 then some (k : Int) else g y)
              rw [if_pos ⟨rfl, hn⟩]; rfl
            · show (if y = x then _ else f y) = Option.map u8V (if x = y ∧ ¬ x = -1 then some (k : Int) else g y)
              rw [if_neg hy, if_neg (fun h => hy h.1.symm)]; exact hF.out y
          · have := hG.out y
            rw [hdrop.out, byteG] at this
            exact this
        case measure => simp [intOf]; omega
    · have hlen : l0.drop k = [] := List.drop_of_length_le (by omega)
      have hfin : Aside0 (∀ x, g x = byteOf l0 x) := ⟨fun x => by have := hG.out x; rw [hlen, byteG] at this; exact this⟩
      have hu0 := blk_cell hU.out 0
      have ht0 := blk_cell hT.out 0
      have ft0 := blk_frozen hT.out 0
      clear hlen
      go_wp2
      refine bodyPost_ret (resT rfl _ _ (w.heap.size + 1) 48 _ (0, 0) _ rfl (blk_set hT.out 0 _) Tryd.underlying48 rfl (by kernel_rfl)) rfl ?_
      refine ⟨w.heap.size + 1 + 1, f, rfl, by omega, (hM.out.mono (by have := HL.out; omega)).setCell (by show w.heap.size + 1 + 1 ≠ w.heap.size + 1; omega) _, fun x => by rw [hF.out, hfin.out], hB.out.setCell (by show w.heap.size ≤ w.heap.size + 1; omega) _⟩

/-! ### strings_Builder_copyCheck: function 51 -/
theorem MapIs.same {κ : Type} {enc : κ → Lit} {w w' : World} {P : Program} {k : TypeId} {b n : Nat} {f : κ → Option Value} (h : MapIs enc w P k b n f) (e : w'.heap[b]? = w.heap[b]?) : MapIs enc w' P k b n f := by
  obtain ⟨D, ⟨es, clock, hb, r⟩, h2, h3⟩ := h
  exact ⟨D, ⟨es, clock, e.trans hb, r⟩, h2, h3⟩
/-- the builder of charset: the table's map, the strings.Builder behind it -/
theorem grown_set (w : World) (hb i : Nat) (u : Value) : w.grownBy (w.setCell ⟨hb, i, none⟩ u) (some hb) := ⟨rfl, rfl, rfl, by simp, fun k _ hk => Below.heap_setCell w ⟨hb, i, none⟩ u k (fun e => hk (by rw [e]))⟩
def PutAt (bm hb : Nat) (p : Value) (bs : List Value) (w : World) : Prop := ∃ v, w.heap[hb]? = some (.cells #[.map (some bm), p, v] 55 (0, 0)) ∧ w.ownsRow hb 5 1 v bs.length bs ∧ v.ownBlock ≠ some hb ∧ (bs = [] → v = .slice none 0 0)
def IsPut (bm hb : Nat) (bs : List Value) (w : World) : Prop := PutAt bm hb (.pointer none) bs w ∨ PutAt bm hb (.pointer (some ⟨hb, 1, none⟩)) bs w
theorem putSize : ∃ j, Tryd.prog.info? 53 = some j ∧ j.size = 2 := by
  have h : (Tryd.prog.info? 53).map (·.size) = some 2 := by kernel_rfl
  obtain ⟨j, hj, hs⟩ := Option.map_eq_some_iff.1 h
  exact ⟨j, hj, hs⟩
theorem putLies : liesAt Tryd.prog (Program.depth Tryd.prog) 55 (3 / Tryd.prog.cellsOf 55) 1 53 1 = true := by kernel_rfl
set_option maxHeartbeats 1000000 in
set_option maxRecDepth 100000 in
theorem check_used (hb : Nat) (w : World) (h0 : w.cell? ⟨hb, 1, none⟩ = some (.pointer (some ⟨hb, 1, none⟩))) :
    Calls Tryd.prog 51 #[.pointer (some ⟨hb, 1, none⟩)] w fun e w' => e = .returned (.tuple #[]) ∧ w' = w := by
  obtain ⟨j, hj, _⟩ := putSize
  go_enter Tryd.func51, Tryd.ntmps51
  go_wp2
  rw [Lib.run_neq_ptr_same w _ Tryd.underlying50 hj]
  go_wp2
  go_end0
  exact ⟨rfl, rfl⟩
set_option maxHeartbeats 1000000 in
set_option maxRecDepth 100000 in
theorem check_fresh (hb : Nat) (w : World) (h0 : w.cell? ⟨hb, 1, none⟩ = some (.pointer none)) (hsh : w.shape? hb = some (55, 3)) (hfz : w.frozen? ⟨hb, 1, none⟩ = false) :
    Calls Tryd.prog 51 #[.pointer (some ⟨hb, 1, none⟩)] w fun e w' => e = .returned (.tuple #[]) ∧ w' = w.setCell ⟨hb, 1, none⟩ (.pointer (some ⟨hb, 1, none⟩)) := by
  obtain ⟨j, hj, hjs⟩ := putSize
  go_enter Tryd.func51, Tryd.ntmps51
  go_wp2
  rw [Lib.run_to_unsafe w ⟨hb, 1, none⟩ Tryd.underlying50 Tryd.underlying91 hj (by rw [hjs]; decide) hsh (show 1 < 3 by decide)]
  simp only [Result.andThen]
  rw [Oper.upon_value]
  go_wp2
  rw [run_callFunc_extern Tryd.func59 (by kernel_rfl) (by kernel_rfl) (by kernel_rfl) (e := Extern.AbiNoEscape.same) (by kernel_rfl)]
  rw [Lib.run_noEscape]
  simp only [Result.andThen]
  rw [Oper.upon_value]
  go_wp2
  rw [Lib.run_from_unsafe w ⟨hb, 1, none⟩ Tryd.underlying91 Tryd.underlying50 hj hsh putLies]
  simp only [Result.andThen]
  rw [Oper.upon_value]
  go_wp2
  go_end0
  exact ⟨rfl, rfl⟩
theorem check_calls (bm hb : Nat) (bs : List Value) (w : World) (h : IsPut bm hb bs w) :
    Calls Tryd.prog 51 #[.pointer (some ⟨hb, 1, none⟩)] w fun e w' => e = .returned (.tuple #[]) ∧ PutAt bm hb (.pointer (some ⟨hb, 1, none⟩)) bs w' ∧ Below hb w w' ∧ Lib.OthersKept 5 (some hb) w w' := by
  rcases h with ⟨v, h1, h2, h3, h4⟩ | h
  · refine (check_fresh hb w (blk_cell h1 1) (by simp [World.shape?, h1]) (blk_frozen h1 1)).mono ?_
    rintro e w' ⟨rfl, rfl⟩
    exact ⟨rfl, ⟨v, blk_set h1 1 _, World.ownsRow.kept h2 (grown_set w hb 1 _) (.inr h3), h3, h4⟩, (Below.refl hb w).setCell (p := ⟨hb, 1, none⟩) (Nat.le_refl _) _, (Lib.OthersKept.refl _ _ w).setCell ⟨hb, 1, none⟩ rfl _⟩
  · obtain ⟨v, h1, h2, h3, h4⟩ := h
    refine (check_used hb w (blk_cell h1 1)).mono ?_
    rintro e w' ⟨rfl, rfl⟩
    exact ⟨rfl, ⟨v, h1, h2, h3, h4⟩, Below.refl _ _, Lib.OthersKept.refl _ _ _⟩

/-! ### charset_builder_put: function 25 -/
set_option maxHeartbeats 2000000 in
set_option maxRecDepth 100000 in
theorem wbyte_calls (bm hb : Nat) (bs : List Value) (c : Int) (w : World) (h : IsPut bm hb bs w) (hlen : bs.length + 1 ≤ 1000000) :
    Calls Tryd.prog 44 #[.pointer (some ⟨hb, 1, none⟩), .int .u8 c] w fun e w' => e = .returned .nilIface ∧ PutAt bm hb (.pointer (some ⟨hb, 1, none⟩)) (bs ++ [.int .u8 c]) w' ∧ Below hb w w' ∧ Lib.OthersKept 5 (some hb) w w' := by
  have hinfo : (Tryd.prog.info? 5).map (fun i => (i.zero, i.size, i.bytes)) = some (some (.int .u8 0), 1, 1) := by kernel_rfl
  obtain ⟨i0, hi, hz⟩ := Option.map_eq_some_iff.1 hinfo
  injection hz with hz0 hz12
  injection hz12 with hz1 hz2
  have HC := Aside0.mk (check_calls bm hb bs w h)
  have hlt : hb < w.heap.size := by
    rcases h with ⟨v, h1, _⟩ | ⟨v, h1, _⟩
    · exact blk_lt h1
    · exact blk_lt h1
  clear h hinfo
  go_enter Tryd.func44, Tryd.ntmps44
  go_wp2_with (go_at_call 51; refine HC.out.mono ?_)
  rintro e w1 ⟨rfl, h1, hb1, hk1⟩
  obtain ⟨v, hbk, hown, hne, _⟩ := h1
  have hlt1 : hb < w1.heap.size := blk_lt hbk
  have c0 := blk_cell hbk 1
  have c1 := blk_cell hbk 2
  go_wp2_with (at_builtin; refine wpList_append_own _ rfl _ _ 51 rfl hb 5 i0 (.int .u8 0) 1 1 Tryd.underlying51 hi hz0 hz1 hz2 rfl (by decide) _ _ _ rfl (hown.alloc _) ⟨w1.heap.size, 0, none⟩ 1 1 [.int .u8 c] rfl rfl ?c1 ?c2 ?c3 ?c4 ?c5 ?_)
  case c1 =>
    intro j u hj
    match j, hj with
    | 0, hj => simp at hj; subst hj; simp [Addr.add]
  case c2 => intro u hu; simp at hu; subst hu; rfl
  case c3 => unfold maxLen; omega
  case c4 => omega
  case c5 => simp; omega
  intro v' w2 hown' hgrow _
  have hb2 : w2.heap[hb]? = some (.cells #[.map (some bm), .pointer (some ⟨hb, 1, none⟩), v] 55 (0, 0)) := blk_grown (blk_alloc hbk _) hgrow (fun e => hne e.symm)
  have d1 := blk_cell hb2 2
  have f1 := blk_frozen hb2 2
  obtain ⟨g, cap, rfl⟩ : ∃ g cap, v' = .slice (some ⟨g, 0, none⟩) (bs.length + 1) cap := by
    rcases hown'.2 with ⟨_, h0⟩ | ⟨g, cap, cur, hv, _⟩
    · omega
    · exact ⟨g, cap, hv⟩
  have hgne : (Value.slice (some ⟨g, 0, none⟩) (bs.length + 1) cap).ownBlock ≠ some hb := by
    intro e
    rcases hown'.2 with ⟨_, h0⟩ | ⟨g', cap', cur, hv, _, hg, _⟩
    · omega
    · injection hv with hv1 hv2 hv3
      injection hv1 with hv1
      injection hv1 with hv1
      have e2 : g = hb := by simpa [Value.ownBlock] using e
      rw [← hv1, e2, hb2] at hg
      injection hg with hg
      injection hg with _ hg
      exact absurd hg (by decide)
  go_wp2
  go_ret
  refine ⟨rfl, ⟨_, blk_set hb2 2 _, ?_, hgne, fun e => by simp at e⟩, ?_, ((hk1.alloc _).grown hgrow (Lib.ownsRowF_kind (World.ownsRowF_of (hown.alloc _)))).setCell ⟨hb, 2, none⟩ rfl _⟩
  · have := World.ownsRow.kept hown' (grown_set w2 hb 2 (.slice (some ⟨g, 0, none⟩) (bs.length + 1) cap)) (.inr hgne)
    simpa using this
  · refine Below.setCell (p := ⟨hb, 2, none⟩) ?_ (Nat.le_refl _) _
    exact (hb1.alloc (Nat.le_of_lt hlt1) _).grown hgrow (by simp; omega) (fun k hk => (hown.lt k hk).1)
theorem zero_u8 (w : World) : (zeroValue 5).run Tryd.prog w = .ok (.int .u8 0) w := by kernel_rfl
def putB (g : Int → Option Int) (c : Int) : List Value := match g c with | some x => [u8V x] | none => []
set_option maxHeartbeats 2000000 in
set_option maxRecDepth 100000 in
theorem put_calls (bm hb n : Nat) (f : Int → Option Value) (g : Int → Option Int) (bs : List Value) (c : Int) (w : World) (h : IsPut bm hb bs w) (hM : MapIs encI w Tryd.prog 3 bm n f) (hf : ∀ x, f x = (g x).map u8V) (hlen : bs.length + 1 ≤ 1000000) (hc : -9223372036854775808 ≤ c ∧ c ≤ 9223372036854775807) :
    Calls Tryd.prog 25 #[.pointer (some ⟨hb, 0, none⟩), .int .i64 c] w fun e w' => e = .returned (.bool (g c).isSome) ∧ IsPut bm hb (bs ++ putB g c) w' ∧ Below hb w w' ∧ Lib.OthersKept 5 (some hb) w w' := by
  have hfc := hf c
  have h0 : w.cell? ⟨hb, 0, none⟩ = some (.map (some bm)) := by
    rcases h with ⟨v, h1, _⟩ | ⟨v, h1, _⟩
    · exact blk_cell h1 0
    · exact blk_cell h1 0
  have HM := Aside0.mk hM
  have HK := Aside0.mk (key_int c hc)
  have HP := Aside0.mk h
  clear h hM hf hc
  cases hg : g c with
  | none =>
    rw [hg] at hfc
    have hpb : Aside0 (bs ++ putB g c = bs) := ⟨by unfold putB; rw [hg]; exact List.append_nil _⟩
    clear hg
    go_enter Tryd.func25, Tryd.ntmps25
    go_wp2_with (at_lookup; refine wpList_mapis_ok _ rfl _ _ 46 rfl 3 5 law_int Tryd.underlying46 (zero_u8 _) bm n f rfl HM.out _ _ rfl HK.out ?_; rw [hfc]; simp only [Option.map_none, Option.getD_none, Option.isSome_none])
    go_ret
    exact ⟨rfl, by rw [hpb.out]; exact HP.out, Below.refl _ _, Lib.OthersKept.refl _ _ _⟩
  | some x =>
    rw [hg] at hfc
    have hpb : Aside0 (bs ++ putB g c = bs ++ [.int .u8 x]) := ⟨by unfold putB; rw [hg]; rfl⟩
    have HW := Aside0.mk (wbyte_calls bm hb bs x w HP.out hlen)
    clear hg
    go_enter Tryd.func25, Tryd.ntmps25
    go_wp2_with (first | (at_lookup; refine wpList_mapis_ok _ rfl _ _ 46 rfl 3 5 law_int Tryd.underlying46 (zero_u8 _) bm n f rfl HM.out _ _ rfl HK.out ?_; rw [hfc]; simp only [Option.map_some, Option.getD_some, Option.isSome_some, u8V]) | (go_at_call 44; refine HW.out.mono ?_; rintro e w1 ⟨rfl, hp, hb1, hk1⟩))
    go_ret
    exact ⟨rfl, by rw [hpb.out]; exact .inr hp, hb1, hk1⟩

/-! ### strings_Builder_String: function 27 -/
theorem put_any {bm hb : Nat} {bs : List Value} {w : World} (h : IsPut bm hb bs w) : ∃ p, PutAt bm hb p bs w := by
  rcases h with h | h
  · exact ⟨_, h⟩
  · exact ⟨_, h⟩
set_option maxHeartbeats 2000000 in
set_option maxRecDepth 100000 in
theorem string_calls (bm hb : Nat) (l : List UInt8) (w : World) (h : IsPut bm hb (Lib.byteCells l) w) :
    Calls Tryd.prog 27 #[.pointer (some ⟨hb, 1, none⟩)] w fun e w' => e = .returned (.string ⟨l.toArray⟩) ∧ Below hb w w' := by
  obtain ⟨p, v, hbk, hown, hne, hemp⟩ := put_any h
  clear h
  by_cases h0 : l = []
  · subst h0
    obtain rfl := hemp rfl
    have hUS : (Builtin.unsafeString_ #[75, 3] 9 #[.pointer none, .int .i64 0]).run Tryd.prog w.drew = .ok (.string .empty) w.drew := Lib.run_unsafeString_none w.drew _ _ _ none
    have c1 : w.drew.cell? ⟨hb, 2, none⟩ = some (.slice none 0 0) := blk_cell (w := w.drew) hbk 2
    have hSD : (Builtin.unsafeSliceData_ #[51] 75 #[.slice none 0 0]).run Tryd.prog w.drew = .ok (.pointer none) w.drew := rfl
    go_enter Tryd.func27, Tryd.ntmps27
    go_wp2
    go_region_held3 (fun w' => w'.cell? ⟨hb, 2, none⟩ = some (.slice none 0 0))
      (first | go_keep | assumption)
      (first | (go_at_call 1000000; skip))
    all_goals (go_wp2; go_ret; exact ⟨rfl, Below.drew (Below.refl hb w)⟩)
  · have hl0 : l.length ≠ 0 := by simpa using h0
    rw [Lib.byteCells_length] at hown
    obtain ⟨g, cap, cur, rfl, hbg, hg, hnc, hcm, hcs, htake⟩ : ∃ g cap cur, v = .slice (some ⟨g, 0, none⟩) l.length cap ∧ hb ≤ g ∧ w.heap[g]? = some (.cells cur 5 (0, 0)) ∧ l.length ≤ cap ∧ cap ≤ maxLen ∧ cur.size = cap * 1 ∧ cur.toList.take (l.length * 1) = Lib.byteCells l := by
      rcases hown.2 with ⟨_, hz⟩ | ⟨g, cap, cur, hv, r⟩
      · exact absurd hz hl0
      · exact ⟨g, cap, cur, hv, r⟩
    have c1 : w.drew.cell? ⟨hb, 2, none⟩ = some (.slice (some ⟨g, 0, none⟩) l.length cap) := blk_cell (w := w.drew) hbk 2
    have hSD : (Builtin.unsafeSliceData_ #[51] 75 #[.slice (some ⟨g, 0, none⟩) l.length cap]).run Tryd.prog w.drew = .ok (.pointer (some ⟨g, 0, none⟩)) w.drew :=
      Lib.run_unsafeSliceData_row _ _ _ _ _ _ (by omega)
    have hUS : (Builtin.unsafeString_ #[75, 3] 9 #[.pointer (some ⟨g, 0, none⟩), .int .i64 l.length]).run Tryd.prog w.drew = .ok (.string ⟨l.toArray⟩) (w.drew.freeze ⟨g, 0, none⟩ l.length) := by
      refine Lib.run_unsafeString_row w.drew 75 3 9 5 Tryd.underlying75 (by kernel_rfl) g cur.size (by have hg' : w.drew.heap[g]? = some (.cells cur 5 (0, 0)) := hg; simp [World.shape?, hg']) l h0 (by omega) (by unfold maxLen at hcm; omega) ?_
      intro j x hx
      have := hown.cells (g := g) rfl j (.int .u8 x.toNat) (by simp [Lib.byteCells, hx])
      exact this
    have hgne : g ≠ hb := fun e => hne (by rw [e]; rfl)
    have hfz : (w.drew.freeze ⟨g, 0, none⟩ l.length).heap[hb]? = w.heap[hb]? := by
      unfold World.freeze
      split
      · rfl
      · simp only [Array.getElem?_modify]
        rw [if_neg hgne]; rfl
    have cF := blk_cell (hfz.trans hbk) 2
    have cF : (w.drew.freeze ⟨g, 0, none⟩ l.length).cell? ⟨hb, 2, none⟩ = some (.slice (some ⟨g, 0, none⟩) l.length cap) := cF
    clear hfz
    go_enter Tryd.func27, Tryd.ntmps27
    go_wp2
    go_region_held3 (fun w' => w'.cell? ⟨hb, 2, none⟩ = some (.slice (some ⟨g, 0, none⟩) l.length cap))
      (first | go_keep | assumption)
      (first | (go_at_call 1000000; skip))
    all_goals (go_wp2; go_ret; exact ⟨rfl, Lib.below_freeze (Below.drew (Below.refl hb w)) (p := ⟨g, 0, none⟩) hbg _⟩)

end Go.Proofs.YtlgoagkgmndchaaDoor.PA

-- Laid by hprint.py (this session's program, over the kit's print) for the seat Ytneelkaelcilfaa. Lean checks it.
import Derived.Test.YtneelkaelcilfaaPAx0
import Derived.Test.YtneelkaelcilfaaPAx2
import Derived.Test.YtneelkaelcilfaaPAx5
import Derived.Test.YtneelkaelcilfaaPAx6
import Derived.Test.YtneelkaelcilfaaPAx7
import Derived.Test.YtneelkaelcilfaaPAx8
namespace Go.Proofs.Ytneelkaelcilfaa.PA
open Go.RowKit Go.Proofs.YtneelkaelcilfaaW.PrintWords Go.Proofs.YtneelkaelcilfaaW.PrintLast Go.Proofs.YtneelkaelcilfaaW.PrintMore
attribute [local go_sem] max2_int min2_int max_two min_two max_three min_three max_four min_four   -- for this text's walks alone
set_option linter.unusedVariables false
set_option linter.unusedSimpArgs false

/-! ### unicodetextref09_Strings: function 16 -/
def unicodetextref09_Strings.l0 : Nat → List ByteArray → List ByteArray → Int → Option (Bool)
  | 0, _, _, _ => none
  | k + 1, x0, x1, x5 => if x5 < (x0.length : Int) then (if 0 ≤ x5 then (if x5 < (x1.length : Int) then (if (rdOf ByteArray.empty x0 x5).toList = (rdOf ByteArray.empty x1 x5).toList then (unicodetextref09_Strings.l0 k x0 x1 (wrap64 (x5 + 1))) else (some false)) else (none)) else (none)) else (some true)
def unicodetextref09_Strings.f (k : Nat) (l0 : List ByteArray) (l1 : List ByteArray) : Option (Bool) := if (l0.length : Int) = (l1.length : Int) then (unicodetextref09_Strings.l0 k l0 l1 0) else (some false)
theorem unicodetextref09_Strings.mono_l : ∀ k, (∀ y0 y1 y2, LeO (unicodetextref09_Strings.l0 k y0 y1 y2) (unicodetextref09_Strings.l0 (k + 1) y0 y1 y2))
  | 0 => fun _ _ _ r h => by simp [unicodetextref09_Strings.l0] at h
  | k + 1 => by
    have ih0 := unicodetextref09_Strings.mono_l k
    · intro y0 y1 y2
      unfold unicodetextref09_Strings.l0
      repeat' first
      | (with_reducible exact ih0 _ _ _)
      | (with_reducible exact LeO.refl _)
      | (with_reducible exact LeO.none _)
      | (with_reducible refine LeO.ite ?_ ?_)
      | (with_reducible refine LeO.bind ?_ (fun _ => ?_))
      | exact ih0 _ _ _
      | exact LeO.none _
      | refine LeO.ite ?_ ?_
      | refine LeO.bind ?_ (fun _ => ?_)
theorem unicodetextref09_Strings.mono : ∀ a0 a1 k, LeO (unicodetextref09_Strings.f k a0 a1) (unicodetextref09_Strings.f (k + 1) a0 a1) := by
  intro a0 a1 k
  have ih0 := unicodetextref09_Strings.mono_l k
  unfold unicodetextref09_Strings.f
  repeat' first
      | (with_reducible exact ih0 _ _ _)
      | (with_reducible exact LeO.refl _)
      | (with_reducible exact LeO.none _)
      | (with_reducible refine LeO.ite ?_ ?_)
      | (with_reducible refine LeO.bind ?_ (fun _ => ?_))
      | exact ih0 _ _ _
      | exact LeO.none _
      | refine LeO.ite ?_ ?_
      | refine LeO.bind ?_ (fun _ => ?_)
set_option maxHeartbeats 8000000 in
set_option maxRecDepth 100000 in
theorem unicodetextref09_Strings.calls (k : Nat) (A0 : Option Addr) (c0 : Nat) (l0 : List ByteArray) (A1 : Option Addr) (c1 : Nat) (l1 : List ByteArray) (r : Bool) (w : World) (hr0 : Kd.C Kd.string w A0 l0.length l0) (hc0 : l0.length ≤ c0) (hr1 : Kd.C Kd.string w A1 l1.length l1) (hc1 : l1.length ≤ c1) (h : unicodetextref09_Strings.f k l0 l1 = some r) :
    Calls Try.prog 16 #[.slice A0 l0.length c0, .slice A1 l1.length c1] w fun e w' => e = .returned (.bool r) ∧ Drawn0 w w' := by
  have HR0 := Aside0.mk hr0
  have HC0 := Aside0.mk hc0
  clear hr0 hc0
  have HR1 := Aside0.mk hr1
  have HC1 := Aside0.mk hc1
  clear hr1 hc1
  have H : (if (l0.length : Int) = (l1.length : Int) then (unicodetextref09_Strings.l0 k l0 l1 0) else (some false)) = some r := h
  clear h
  by_cases c3 : (l0.length : Int) = (l1.length : Int)
  · rw [if_pos c3] at H
    have c3b0 : ((l0.length : Int) == (l1.length : Int)) = true := beq_iff_eq.mpr c3
    have c3b1 : ((l0.length : Int) != (l1.length : Int)) = false := bne_eq_false_iff_eq.mpr c3
    have c3b2 : (l0.length == l1.length) = true := by first | simpa using c3 | (simp at c3 ⊢; omega)
    clear c3
    have H' := Aside0.mk H
    clear H
    go_enter Try.func16, Try.ntmps16
    go_wp2
    repeat (go_quiet (fail); try go_wp2)
    go_loopg [5] k (fun kq v5 w' => ∃ (x5_1 : Int), v5 = .int .i64 x5_1 ∧ Aside0 (unicodetextref09_Strings.l0 kq l0 l1 x5_1 = some r) ∧ Aside0 (kq ≤ k) ∧ Drawn0 w w')
    case atStart => exact ⟨(0), (by first | rfl | (simp; done) | (simp [*]; done)), H', ⟨Nat.le_refl _⟩, by repeat (first | exact Drawn0.refl _ | apply Drawn0.step)⟩
    case round =>
      clear H'
      try clear c1
      try clear p2
      try clear c3
      try clear c3b0
      try clear c3b1
      try clear c3b2
      obtain ⟨x5_1, rfl, HA, HK1, ⟨m1, rfl⟩⟩ := hrel
      cases gk with
      | zero => exact absurd HA.out (by simp [unicodetextref09_Strings.l0])
      | succ k1 =>
        have H := HA.out
        clear HA
        simp only [unicodetextref09_Strings.l0] at H
        by_cases c4 : x5_1 < (l0.length : Int)
        · rw [if_pos c4] at H
          have c4b0 : decide (x5_1 < (l0.length : Int)) = true := decide_eq_true c4
          clear c4
          by_cases c5 : 0 ≤ x5_1
          · rw [if_pos c5] at H
            have c5b0 : decide (0 ≤ x5_1) = true := decide_eq_true c5
            clear c5
            by_cases c6 : x5_1 < (l1.length : Int)
            · rw [if_pos c6] at H
              have c6b0 : decide (x5_1 < (l1.length : Int)) = true := decide_eq_true c6
              clear c6
              by_cases c7 : (rdOf ByteArray.empty l0 x5_1).toList = (rdOf ByteArray.empty l1 x5_1).toList
              · rw [if_pos c7] at H
                have c7b0 : ((rdOf ByteArray.empty l0 x5_1).toList == (rdOf ByteArray.empty l1 x5_1).toList) = true := beq_iff_eq.mpr c7
                have c7b1 : ((rdOf ByteArray.empty l0 x5_1).toList != (rdOf ByteArray.empty l1 x5_1).toList) = false := bne_eq_false_iff_eq.mpr c7
                clear c7
                have H' := Aside0.mk H
                clear H
                have p233 : 0 ≤ (x5_1 : Int) := of_decide_eq_true (by first | (with_reducible assumption) | assumption)
                have q233 : x5_1 < (l0.length : Int) := of_decide_eq_true (by first | (with_reducible assumption) | assumption)
                obtain ⟨ad233, e233, hx233_0⟩ := Kd.at_string HR0.out x5_1 p233 q233
                cases e233
                replace p233 := eq_true p233
                replace q233 := eq_true q233
                have p234 : 0 ≤ (x5_1 : Int) := of_decide_eq_true (by first | (with_reducible assumption) | assumption)
                have q234 : x5_1 < (l1.length : Int) := of_decide_eq_true (by first | (with_reducible assumption) | assumption)
                obtain ⟨ad234, e234, hx234_0⟩ := Kd.at_string HR1.out x5_1 p234 q234
                cases e234
                replace p234 := eq_true p234
                replace q234 := eq_true q234
                go_wp2
                repeat (go_quiet (fail); try go_wp2)
                go_roundg k1
                case measure => have := HK1.out; omega
                case rel => exact ⟨(wrap64 (x5_1 + 1)), (by first | rfl | (simp; done) | (simp [*]; done)), H', ⟨by have := HK1.out; omega⟩, by repeat (first | exact Drawn0.refl _ | apply Drawn0.step)⟩
              · rw [if_neg c7] at H
                have c7b0 : ((rdOf ByteArray.empty l0 x5_1).toList == (rdOf ByteArray.empty l1 x5_1).toList) = false := beq_eq_false_iff_ne.mpr c7
                have c7b1 : ((rdOf ByteArray.empty l0 x5_1).toList != (rdOf ByteArray.empty l1 x5_1).toList) = true := bne_iff_ne.mpr c7
                obtain rfl := Option.some.inj H
                have p233 : 0 ≤ (x5_1 : Int) := of_decide_eq_true (by first | (with_reducible assumption) | assumption)
                have q233 : x5_1 < (l0.length : Int) := of_decide_eq_true (by first | (with_reducible assumption) | assumption)
                obtain ⟨ad233, e233, hx233_0⟩ := Kd.at_string HR0.out x5_1 p233 q233
                cases e233
                replace p233 := eq_true p233
                replace q233 := eq_true q233
                have p234 : 0 ≤ (x5_1 : Int) := of_decide_eq_true (by first | (with_reducible assumption) | assumption)
                have q234 : x5_1 < (l1.length : Int) := of_decide_eq_true (by first | (with_reducible assumption) | assumption)
                obtain ⟨ad234, e234, hx234_0⟩ := Kd.at_string HR1.out x5_1 p234 q234
                cases e234
                replace p234 := eq_true p234
                replace q234 := eq_true q234
                go_wp2
                repeat (go_quiet (fail); try go_wp2)
                go_ret
                exact ⟨by first | rfl | (simp; done) | (simp [*]; done), by repeat (first | exact Drawn0.refl _ | apply Drawn0.step)⟩
            · rw [if_neg c6] at H
              exact absurd H (by simp)
          · rw [if_neg c5] at H
            exact absurd H (by simp)
        · rw [if_neg c4] at H
          have c4b0 : decide (x5_1 < (l0.length : Int)) = false := decide_eq_false c4
          clear c4
          obtain rfl := Option.some.inj H
          go_wp2
          repeat (go_quiet (fail); try go_wp2)
          go_ret
          exact ⟨by first | rfl | (simp; done) | (simp [*]; done), by repeat (first | exact Drawn0.refl _ | apply Drawn0.step)⟩
  · rw [if_neg c3] at H
    have c3b0 : ((l0.length : Int) == (l1.length : Int)) = false := beq_eq_false_iff_ne.mpr c3
    have c3b1 : ((l0.length : Int) != (l1.length : Int)) = true := bne_iff_ne.mpr c3
    have c3b2 : (l0.length == l1.length) = false := by first | simpa using c3 | (simp at c3 ⊢; omega)
    obtain rfl := Option.some.inj H
    go_enter Try.func16, Try.ntmps16
    go_wp2
    repeat (go_quiet (fail); try go_wp2)
    go_ret
    exact ⟨by first | rfl | (simp; done) | (simp [*]; done), by repeat (first | exact Drawn0.refl _ | apply Drawn0.step)⟩

/-! ### unicodetextref40_Has: function 26 -/
def unicodetextref40_Has.l0 : Nat → List ByteArray → ByteArray → Int → Option (Bool)
  | 0, _, _, _ => none
  | k + 1, x0, x1, x5 => if x5 < (x0.length : Int) then (if 0 ≤ x5 then (if (rdOf ByteArray.empty x0 x5).toList = x1.toList then (some true) else (unicodetextref40_Has.l0 k x0 x1 (wrap64 (x5 + 1)))) else (none)) else (some false)
def unicodetextref40_Has.f (k : Nat) (l0 : List ByteArray) (a1 : ByteArray) : Option (Bool) := unicodetextref40_Has.l0 k l0 a1 0
theorem unicodetextref40_Has.mono_l : ∀ k, (∀ y0 y1 y2, LeO (unicodetextref40_Has.l0 k y0 y1 y2) (unicodetextref40_Has.l0 (k + 1) y0 y1 y2))
  | 0 => fun _ _ _ r h => by simp [unicodetextref40_Has.l0] at h
  | k + 1 => by
    have ih0 := unicodetextref40_Has.mono_l k
    · intro y0 y1 y2
      unfold unicodetextref40_Has.l0
      repeat' first
      | (with_reducible exact ih0 _ _ _)
      | (with_reducible exact LeO.refl _)
      | (with_reducible exact LeO.none _)
      | (with_reducible refine LeO.ite ?_ ?_)
      | (with_reducible refine LeO.bind ?_ (fun _ => ?_))
      | exact ih0 _ _ _
      | exact LeO.none _
      | refine LeO.ite ?_ ?_
      | refine LeO.bind ?_ (fun _ => ?_)
theorem unicodetextref40_Has.mono : ∀ a0 a1 k, LeO (unicodetextref40_Has.f k a0 a1) (unicodetextref40_Has.f (k + 1) a0 a1) := by
  intro a0 a1 k
  have ih0 := unicodetextref40_Has.mono_l k
  unfold unicodetextref40_Has.f
  repeat' first
      | (with_reducible exact ih0 _ _ _)
      | (with_reducible exact LeO.refl _)
      | (with_reducible exact LeO.none _)
      | (with_reducible refine LeO.ite ?_ ?_)
      | (with_reducible refine LeO.bind ?_ (fun _ => ?_))
      | exact ih0 _ _ _
      | exact LeO.none _
      | refine LeO.ite ?_ ?_
      | refine LeO.bind ?_ (fun _ => ?_)
set_option maxHeartbeats 8000000 in
set_option maxRecDepth 100000 in
theorem unicodetextref40_Has.calls (k : Nat) (A0 : Option Addr) (c0 : Nat) (l0 : List ByteArray) (a1 : ByteArray) (r : Bool) (w : World) (hr0 : Kd.C Kd.string w A0 l0.length l0) (hc0 : l0.length ≤ c0) (h : unicodetextref40_Has.f k l0 a1 = some r) :
    Calls Try.prog 26 #[.slice A0 l0.length c0, .string a1] w fun e w' => e = .returned (.bool r) ∧ Drawn0 w w' := by
  have HR0 := Aside0.mk hr0
  have HC0 := Aside0.mk hc0
  clear hr0 hc0
  have H : (unicodetextref40_Has.l0 k l0 a1 0) = some r := h
  clear h
  have H' := Aside0.mk H
  clear H
  go_enter Try.func26, Try.ntmps26
  go_wp2
  go_loopg [5] k (fun kq v5 w' => ∃ (x5_1 : Int), v5 = .int .i64 x5_1 ∧ Aside0 (unicodetextref40_Has.l0 kq l0 a1 x5_1 = some r) ∧ Aside0 (kq ≤ k) ∧ Drawn0 w w')
  case atStart => exact ⟨(0), (by first | rfl | (simp; done) | (simp [*]; done)), H', ⟨Nat.le_refl _⟩, by repeat (first | exact Drawn0.refl _ | apply Drawn0.step)⟩
  case round =>
    clear H'
    try clear c2
    try clear p2
    obtain ⟨x5_1, rfl, HA, HK1, ⟨m1, rfl⟩⟩ := hrel
    cases gk with
    | zero => exact absurd HA.out (by simp [unicodetextref40_Has.l0])
    | succ k1 =>
      have H := HA.out
      clear HA
      simp only [unicodetextref40_Has.l0] at H
      by_cases c3 : x5_1 < (l0.length : Int)
      · rw [if_pos c3] at H
        have c3b0 : decide (x5_1 < (l0.length : Int)) = true := decide_eq_true c3
        clear c3
        by_cases c4 : 0 ≤ x5_1
        · rw [if_pos c4] at H
          have c4b0 : decide (0 ≤ x5_1) = true := decide_eq_true c4
          clear c4
          by_cases c5 : (rdOf ByteArray.empty l0 x5_1).toList = a1.toList
          · rw [if_pos c5] at H
            have c5b0 : ((rdOf ByteArray.empty l0 x5_1).toList == a1.toList) = true := beq_iff_eq.mpr c5
            have c5b1 : ((rdOf ByteArray.empty l0 x5_1).toList != a1.toList) = false := bne_eq_false_iff_eq.mpr c5
            clear c5
            obtain rfl := Option.some.inj H
            have p300 : 0 ≤ (x5_1 : Int) := of_decide_eq_true (by first | (with_reducible assumption) | assumption)
            have q300 : x5_1 < (l0.length : Int) := of_decide_eq_true (by first | (with_reducible assumption) | assumption)
            obtain ⟨ad300, e300, hx300_0⟩ := Kd.at_string HR0.out x5_1 p300 q300
            cases e300
            replace p300 := eq_true p300
            replace q300 := eq_true q300
            go_wp2
            go_ret
            exact ⟨by first | rfl | (simp; done) | (simp [*]; done), by repeat (first | exact Drawn0.refl _ | apply Drawn0.step)⟩
          · rw [if_neg c5] at H
            have c5b0 : ((rdOf ByteArray.empty l0 x5_1).toList == a1.toList) = false := beq_eq_false_iff_ne.mpr c5
            have c5b1 : ((rdOf ByteArray.empty l0 x5_1).toList != a1.toList) = true := bne_iff_ne.mpr c5
            have H' := Aside0.mk H
            clear H
            have p300 : 0 ≤ (x5_1 : Int) := of_decide_eq_true (by first | (with_reducible assumption) | assumption)
            have q300 : x5_1 < (l0.length : Int) := of_decide_eq_true (by first | (with_reducible assumption) | assumption)
            obtain ⟨ad300, e300, hx300_0⟩ := Kd.at_string HR0.out x5_1 p300 q300
            cases e300
            replace p300 := eq_true p300
            replace q300 := eq_true q300
            go_wp2
            go_roundg k1
            case measure => have := HK1.out; omega
            case rel => exact ⟨(wrap64 (x5_1 + 1)), (by first | rfl | (simp; done) | (simp [*]; done)), H', ⟨by have := HK1.out; omega⟩, by repeat (first | exact Drawn0.refl _ | apply Drawn0.step)⟩
        · rw [if_neg c4] at H
          exact absurd H (by simp)
      · rw [if_neg c3] at H
        have c3b0 : decide (x5_1 < (l0.length : Int)) = false := decide_eq_false c3
        clear c3
        obtain rfl := Option.some.inj H
        go_wp2
        go_ret
        exact ⟨by first | rfl | (simp; done) | (simp [*]; done), by repeat (first | exact Drawn0.refl _ | apply Drawn0.step)⟩

/-! ### prelude pbase -/
theorem wr64 (n : Int) (h1 : -9223372036854775808 ≤ n) (h2 : n ≤ 9223372036854775807) : wrap64 n = n := by unfold wrap64; omega
def hasB (l : List ByteArray) (x : ByteArray) : Bool := l.any fun y => decide (y = x)
theorem hasB_iff (l : List ByteArray) (x : ByteArray) : hasB l x = true ↔ x ∈ l := by
  unfold hasB
  rw [List.any_eq_true]
  constructor
  · rintro ⟨y, hy, h⟩; rw [decide_eq_true_eq] at h; rw [← h]; exact hy
  · intro h; exact ⟨x, h, by rw [decide_eq_true_eq]⟩
theorem has_l0 (l : List ByteArray) (x : ByteArray) (hl : l.length ≤ 1000000) : ∀ (k i : Nat), i ≤ l.length → l.length - i < k → unicodetextref40_Has.l0 k l x (i : Int) = some (hasB (l.drop i) x) := by
  intro k
  induction k with
  | zero => intro i h1 h2; omega
  | succ k ih =>
    intro i h1 h2
    rw [unicodetextref40_Has.l0]
    by_cases hi : i < l.length
    · rw [if_pos (by omega), if_pos (by omega), wr64 _ (by omega) (by omega), rdOf_nat, drop_at l ByteArray.empty i hi]
      unfold hasB
      rw [List.any_cons]
      by_cases h : l.getD i ByteArray.empty = x
      · rw [if_pos (by rw [h]), decide_eq_true h]; rfl
      · rw [if_neg (fun e => h ((bs_eq _ _).1 e)), decide_eq_false h, Bool.false_or]
        exact ih (i + 1) hi (by omega)
    · rw [if_neg (by omega), List.drop_of_length_le (by omega)]; rfl
theorem has_f (l : List ByteArray) (x : ByteArray) (hl : l.length ≤ 1000000) (k : Nat) (hk : l.length < k) : unicodetextref40_Has.f k l x = some (hasB l x) := by
  have := has_l0 l x hl k 0 (Nat.zero_le _) (by omega)
  unfold unicodetextref40_Has.f
  rw [show (0 : Int) = ((0 : Nat) : Int) from rfl, this]; rfl

/-! ### prelude pstr -/
theorem strings_l0 (l : List ByteArray) (hl : l.length ≤ 1000000) : ∀ (k i : Nat), i ≤ l.length → l.length - i < k → unicodetextref09_Strings.l0 k l l (i : Int) = some true := by
  intro k
  induction k with
  | zero => intro i h1 h2; omega
  | succ k ih =>
    intro i h1 h2
    rw [unicodetextref09_Strings.l0]
    by_cases hi : i < l.length
    · rw [if_pos (by omega), if_pos (by omega), if_pos (by omega), if_pos rfl, wr64 _ (by omega) (by omega)]
      exact ih (i + 1) hi (by omega)
    · rw [if_neg (by omega)]
theorem strings_f (l : List ByteArray) (hl : l.length ≤ 1000000) (k : Nat) (hk : l.length < k) : unicodetextref09_Strings.f k l l = some true := by
  unfold unicodetextref09_Strings.f
  rw [if_pos rfl]
  exact strings_l0 l hl k 0 (Nat.zero_le _) (by omega)

/-! ### scripts_Mixed: function 18 -/
def scripts_Mixed.f (l0_0 : List ByteArray) (l0_1 : List (S45)) (l1 : List Int) : Option (Bool) := (scripts_Of.f l0_0 l0_1 l1).bind fun t236 => (some (decide ((t236.length : Int) > 1)))
set_option maxHeartbeats 8000000 in
set_option maxRecDepth 100000 in
theorem scripts_Mixed.calls (A0_0 : Option Addr) (c0_0 : Nat) (l0_0 : List ByteArray) (A0_1 : Option Addr) (c0_1 : Nat) (l0_1 : List (S45)) (A1 : Option Addr) (c1 : Nat) (l1 : List Int) (r : Bool) (w : World) (hr0_0 : Kd.C Kd.string w A0_0 l0_0.length l0_0) (hc0_0 : l0_0.length ≤ c0_0) (hr0_1 : Kd.C k45 w A0_1 l0_1.length l0_1) (hc0_1 : l0_1.length ≤ c0_1) (hr1 : Kd.C (Kd.int .i64) w A1 l1.length l1) (hc1 : l1.length ≤ c1) (h : scripts_Mixed.f l0_0 l0_1 l1 = some r) :
    Calls Try.prog 18 #[.agg #[.slice A0_0 l0_0.length c0_0, .slice A0_1 l0_1.length c0_1], .slice A1 l1.length c1] w fun e w' => e = .returned (.bool r) ∧ Below w.heap.size w w' := by
  have hu25 := Try.underlying25
  have HR0_0 := Aside0.mk hr0_0
  have HC0_0 := Aside0.mk hc0_0
  clear hr0_0 hc0_0
  have HR0_1 := Aside0.mk hr0_1
  have HC0_1 := Aside0.mk hc0_1
  clear hr0_1 hc0_1
  have HR1 := Aside0.mk hr1
  have HC1 := Aside0.mk hc1
  clear hr1 hc1
  have HB := Aside0.mk (Below.refl w.heap.size w)
  have H : ((scripts_Of.f l0_0 l0_1 l1).bind fun t236 => (some (decide ((t236.length : Int) > 1)))) = some r := h
  clear h
  replace H := Option.bind_eq_some_iff.mp H
  obtain ⟨t236, A30, H⟩ := H
  replace H : (some (decide ((t236.length : Int) > 1))) = some r := H
  have A3 := Aside0.mk A30
  clear A30
  obtain rfl := Option.some.inj H
  go_enter Try.func18, Try.ntmps18
  go_wp2_with (first | ((with_reducible refine gate_dst (N := 2) rfl ?_); refine box_event ?hg (N := 2) ?hd (cs := #[.slice A0_0 l0_0.length c0_0, .slice A0_1 l0_1.length c0_1]) (t := 25) ?hr ?_; (case hd => rfl); (case hg => rfl); (case hr => first | (go_simp; done) | (go_simp; rfl)); intro gb235 hg w4 hbox hb; have n0_ := Aside0.mk (below_step (by repeat (first | (with_reducible first | exact HB.out | apply below_alloc | apply pw_below_drewN | apply below_drew1) | exact HB.out)) hb); have n1_ := Aside0.mk (hbox); have n2_ := Aside0.mk ((by rw [hg]; exact (below_size (by repeat (first | (with_reducible first | exact HB.out | apply below_alloc | apply pw_below_drewN | apply below_drew1) | exact HB.out))) : w.heap.size ≤ gb235)); have n3_ := Aside0.mk ((by rw [hg]; exact (below_size (by repeat (first | (with_reducible first | exact HB.out | apply below_alloc | apply pw_below_drewN | apply below_drew1) | exact HB.out))) : w.heap.size ≤ gb235)); clear HB; have HB := n0_; have BK235 := n1_; have GW235 := n2_; have GE235 := n3_; clear n0_ n1_ n2_ n3_; clear hb hbox hg; have hcz5_0 : w4.cell? ⟨gb235, 0, none⟩ = some (.slice A0_0 l0_0.length c0_0) := (blk_cell BK235.out 0).trans rfl; have hcz5_1 : w4.cell? ⟨gb235, 1, none⟩ = some (.slice A0_1 l0_1.length c0_1) := (blk_cell BK235.out 1).trans rfl; have hfz5_0 := blk_frozen BK235.out 0; have hfz5_1 := blk_frozen BK235.out 1) | ((with_reducible refine gate_callee (f := 15) rfl ?_); refine goesL_ (some 7) rfl rfl Try.func15 (by kernel_rfl) rfl #[.agg #[.slice A0_0 l0_0.length c0_0, .slice A0_1 l0_1.length c0_1], .slice A1 l1.length c1] rfl (by (try simp only [List.map_toArray, List.map_cons, List.map_nil]); first | done | rfl | (simp only [List.length_drop, List.length_take]; rfl)) ?_; (with_reducible refine (scripts_Of.calls _ _ l0_0 _ _ l0_1 _ _ l1 t236 _ ?side1 ?side2 ?side3 ?side4 ?side5 ?side6 A3.out).mono ?_); (case side1 => repeat (first | exact (Kd.C_below HR0_0.out HB.out) | (with_reducible refine Kd.C_alloc ?_ _) | (with_reducible refine Kd.C_drewN ?_ _) | (with_reducible refine Kd.C_drew ?_))); (case side2 => exact HC0_0.out); (case side3 => repeat (first | exact (Kd.C_below HR0_1.out HB.out) | (with_reducible refine Kd.C_alloc ?_ _) | (with_reducible refine Kd.C_drewN ?_ _) | (with_reducible refine Kd.C_drew ?_))); (case side4 => exact HC0_1.out); (case side5 => repeat (first | exact (Kd.C_below HR1.out HB.out) | (with_reducible refine Kd.C_alloc ?_ _) | (with_reducible refine Kd.C_drewN ?_ _) | (with_reducible refine Kd.C_drew ?_))); (case side6 => exact HC1.out); rintro e w6 ⟨v237, rfl, ho0, hb⟩; refine ⟨_, rfl, ?_⟩; have n0_ := Aside0.mk (Kd.R_lower ho0 (below_size (by repeat (first | (with_reducible first | exact HB.out | apply below_alloc | apply pw_below_drewN | apply below_drew1 | refine below_set ?_ GE235.out) | exact HB.out)))); have n1_ := Aside0.mk (blk_below (g := gb235) (o := .cells #[.slice A0_0 l0_0.length c0_0, .slice A0_1 l0_1.length c0_1] 25 (0, 0)) (by (with_reducible repeat (first | refine blk_drewN ?_ _ | refine blk_drew ?_ | refine blk_alloc ?_ _)); exact BK235.out) hb); have n2_ := Aside0.mk (below_step (by repeat (first | (with_reducible first | exact HB.out | apply below_alloc | apply pw_below_drewN | apply below_drew1 | refine below_set ?_ GE235.out) | exact HB.out)) hb); clear BK235; clear HB; have HO238 := n0_; have BK235 := n1_; have HB := n2_; clear n0_ n1_ n2_; (try clear hb); (try clear hb2); (try clear hk); (try clear hi); (try clear ho0); obtain ⟨Ao7, co7, eo7⟩ := Kd.R_slice HO238.out; subst eo7))
  go_ret
  exact ⟨by first | rfl | (simp [errW_none, errW_some] <;> rfl) | (simp [*, errW_none, errW_some] <;> rfl), by repeat (first | (with_reducible first | exact HB.out | apply below_alloc | apply pw_below_drewN | apply below_drew1 | refine below_set ?_ GE235.out) | exact HB.out)⟩

/-! ### scripts_resolved: function 28 -/
theorem resolved1_calls (x : ByteArray) (W : World) : Calls Try.prog 44 (#[.string x] ++ #[]) W fun e w' => e = .returned (.bool (notNone x)) ∧ Below W.heap.size W w' := by
  go_enter Try.func44, Try.ntmps44
  go_wp2
  go_ret
  refine ⟨ret_bool ?_, Below.refl _ _⟩
  unfold notNone
  by_cases h : x = noneS
  · rw [decide_eq_true h, h]; simp [noneS_l]
  · rw [decide_eq_false h]; simp [noneS_iff, h]
def scripts_resolved.f (l0_0 : List ByteArray) (l0_1 : List Sp) (l1 : List Int) : Option (List ByteArray) := if scrPre l0_0 l1 = true then some (resolvedB (reals l0_0 l0_1 l1)) else none
set_option maxHeartbeats 1600000 in
set_option maxRecDepth 100000 in
theorem scripts_resolved.calls (A0_0 : Option Addr) (c0_0 : Nat) (l0_0 : List ByteArray) (A0_1 : Option Addr) (c0_1 : Nat) (l0_1 : List Sp) (A1 : Option Addr) (c1 : Nat) (l1 : List Int) (r : List ByteArray) (w : World) (hr0_0 : Kd.C Kd.string w A0_0 l0_0.length l0_0) (hc0_0 : l0_0.length ≤ c0_0) (hr0_1 : Kd.C k45 w A0_1 l0_1.length l0_1) (hc0_1 : l0_1.length ≤ c0_1) (hr1 : Kd.C (Kd.int .i64) w A1 l1.length l1) (hc1 : l1.length ≤ c1) (h : scripts_resolved.f l0_0 l0_1 l1 = some r) :
    Calls Try.prog 28 #[.agg #[.slice A0_0 l0_0.length c0_0, .slice A0_1 l0_1.length c0_1], .slice A1 l1.length c1] w fun e w' => ∃ v0_ : Value, e = .returned (v0_) ∧ Kd.R Kd.string 9 w' w.heap.size (fun _ => True) v0_ r ∧ Below w.heap.size w w' := by
  unfold scripts_resolved.f at h
  by_cases hz : scrPre l0_0 l1 = true
  case neg => rw [if_neg hz] at h; cases h
  rw [if_pos hz] at h
  obtain rfl := Option.some.inj h
  have hreal : scripts_real.f l0_0 l0_1 l1 = some (reals l0_0 l0_1 l1) := by unfold scripts_real.f; rw [if_pos hz]
  have hlen : (reals l0_0 l0_1 l1).length ≤ 1000000 := by
    unfold scrPre at hz; simp only [Bool.and_eq_true, decide_eq_true_eq] at hz; unfold reals; rw [List.length_map]; exact hz.2
  generalize reals l0_0 l0_1 l1 = ls at hreal hlen ⊢
  have HR := Aside0.mk hreal
  have R0 := Aside0.mk hr0_0
  have R1 := Aside0.mk hr0_1
  have R2 := Aside0.mk hr1
  clear h hr0_0 hr0_1 hr1 hz hreal
  go_enter Try.func28, Try.ntmps28
  go_wp2_with fail
  refine (scripts_real.calls _ _ _ _ _ _ _ _ _ _ _ (Kd.C_below R0.out ?_) hc0_0 (Kd.C_below R1.out ?_) hc0_1 (Kd.C_below R2.out ?_) hc1 HR.out).mono ?_
  · exact (Below.refl _ _).alloc (Nat.le_refl _) _
  · exact (Below.refl _ _).alloc (Nat.le_refl _) _
  · exact (Below.refl _ _).alloc (Nat.le_refl _) _
  rintro e w1 ⟨v, rfl, hR, hb⟩
  have HB := Aside0.mk (((Below.refl w.heap.size w).alloc (Nat.le_refl _) _).trans (hb.mono (by simp)))
  have hR' := Aside0.mk (Kd.R_lower hR (show w.heap.size ≤ _ by simp))
  clear hb hR
  obtain ⟨Av, cv, ev⟩ := Kd.R_slice hR'.out
  subst ev
  have hC := Aside0.mk (Kd.R_reads' hR'.out).2.2
  have hcap : ls.length ≤ cv := (Kd.R_reads' hR'.out).2.1
  have hidx := indexFunc_str 44 #[] (enters_of Try.func44 (by kernel_rfl) rfl) notNone Av cv ls w1 hC.out hcap (fun x W _ => resolved1_calls x W)
  rcases idx_first ls 0 with ⟨h1, h2⟩ | ⟨j, h1, h2, h3⟩
  · rw [h1] at hidx
    have HI := Aside0.mk hidx
    have H2 := Aside0.mk h2
    clear hidx h1 h2
    go_wp2_with (go_at_call 43; refine HI.out.mono ?_; rintro e w2 ⟨rfl, hb2⟩)
    go_loopw [6, 23] (fun s i wr => ∃ (k : Nat) (last : ByteArray) (done : List ByteArray), k ≤ ls.length ∧ done.length = k ∧ s = .string last ∧ i = .int .i64 k ∧ Aside0 (done ++ fillB last (ls.drop k) = resolvedB ls) ∧ Aside0 (Kd.R Kd.string 9 wr w.heap.size (fun _ => True) (.slice Av ls.length cv) (done ++ ls.drop k)) ∧ Aside0 (Below w.heap.size w wr)) (fun _ i _ => ls.length - (intOf i).toNat)
    case atStart => exact ⟨0, firstB ls, [], Nat.zero_le _, rfl, by rw [H2.out]; rfl, rfl, ⟨rfl⟩, ⟨Kd.R_below hR'.out hb2⟩, ⟨HB.out.trans (hb2.mono HB.out.size)⟩⟩
    case round =>
      obtain ⟨k, last, done, hk, hdl, rfl, rfl, hD, hRc, hBc⟩ := hrel
      by_cases hlt : k < ls.length
      · have hl : (done ++ ls.drop k).length = ls.length := by rw [List.length_append, List.length_drop]; omega
        obtain ⟨g, cap, he, hg1, hg2, _⟩ := Kd.R_form hRc.out (by omega)
        injection he with e1 e2 e3
        subst e1; subst e3
        have hRn : Kd.R Kd.string 9 wr w.heap.size (fun _ => True) (.slice (some ⟨g, 0, none⟩) (done ++ ls.drop k).length cv) (done ++ ls.drop k) := by rw [hl]; exact hRc.out
        obtain ⟨x0, x1⟩ := Kd.R_cell (d := ByteArray.empty) hRn (k : Int) (by omega) (by omega)
        obtain ⟨x, hx⟩ : ∃ x, x = ls.getD k ByteArray.empty := ⟨_, rfl⟩
        have hdk : Aside0 (ls.drop k = x :: ls.drop (k + 1)) := ⟨by rw [hx]; exact drop_at ls ByteArray.empty k hlt⟩
        have hrd : rdOf ByteArray.empty (done ++ ls.drop k) (k : Int) = x := by
          show (done ++ ls.drop k).getD k ByteArray.empty = x
          rw [hdk.out, List.getD_eq_getElem?_getD, List.getElem?_append_right (by omega), hdl, Nat.sub_self]; rfl
        rw [hrd] at x0
        rw [show ((k : Int)).toNat = k from rfl] at x0 x1
        have HRn := Aside0.mk hRn
        have HG := Aside0.mk hg1
        clear hx hrd hRn e2 hg2
        by_cases hn : x = noneS
        · have t1 : (x.toList == ([] : List UInt8)) = true := by rw [hn, noneS_l]; decide
          have t2 : x.toList = [] := by rw [hn, noneS_l]
          have t3 : (x.toList.isEmpty) = true := by rw [t2]; rfl
          have HN := Aside0.mk hn
          obtain ⟨hp1, hp2⟩ := Kd.R_put HRn.out (k : Int) last
          have hp := Aside0.mk hp1
          have y0 : (wr.setCell ⟨g, k, none⟩ (.string last)).cell? ⟨g, k, none⟩ = some (.string last) := by simp [go_sem, x0]
          clear hn hp1 hp2
          go_wp2
          refine ⟨⟨k + 1, last, done ++ [last], by omega, by rw [List.length_append, hdl]; rfl, rfl, by go_num, ⟨?_⟩, ⟨?_⟩, ⟨hBc.out.setCell HG.out _⟩⟩, by simp [intOf]; omega⟩
          · rw [← hD.out, hdk.out, fillB, if_pos HN.out, List.append_assoc]; rfl
          · have hset : (done ++ ls.drop k).set k last = (done ++ [last]) ++ ls.drop (k + 1) := by
              rw [hdk.out, List.set_append, if_neg (by omega), hdl, Nat.sub_self, List.append_assoc]; rfl
            have h3 := hp.out
            rw [show ((k : Int)).toNat = k from rfl, hset, hl] at h3
            exact h3
        · have t1 : (x.toList == ([] : List UInt8)) = false := by rw [beq_eq_false_iff_ne]; exact fun h => hn ((noneS_iff x).1 h)
          have t2 : ¬ x.toList = [] := fun h => hn ((noneS_iff x).1 h)
          have t3 : (x.toList.isEmpty) = false := by rw [List.isEmpty_eq_false_iff]; exact t2
          have HN := Aside0.mk hn
          clear hn
          go_wp2
          refine ⟨⟨k + 1, x, done ++ [x], by omega, by rw [List.length_append, hdl]; rfl, rfl, by go_num, ⟨?_⟩, ⟨?_⟩, hBc⟩, by simp [intOf]; omega⟩
          · rw [← hD.out, hdk.out, fillB, if_neg HN.out, List.append_assoc]; rfl
          · have hset : (done ++ ls.drop k) = (done ++ [x]) ++ ls.drop (k + 1) := by rw [hdk.out, List.append_assoc]; rfl
            rw [← hset]; exact hRc.out
      · have e : ls.drop k = [] := List.drop_of_length_le (by omega)
        have hfin : Aside0 (Kd.R Kd.string 9 wr w.heap.size (fun _ => True) (.slice Av ls.length cv) (resolvedB ls)) := ⟨by rw [← hD.out, e]; have := hRc.out; rw [e] at this; exact this⟩
        clear hD hRc e
        go_wp2
        go_ret
        exact ⟨_, rfl, hfin.out, hBc.out⟩
  · rw [h2, Nat.zero_add] at hidx
    have HI := Aside0.mk hidx
    have H3 := Aside0.mk h3
    obtain ⟨ad, e, x0⟩ := Kd.at_string hC.out (j : Int) (by omega) (by omega)
    subst e
    rw [show ((j : Int)).toNat = j from rfl, show rdOf ByteArray.empty ls (j : Int) = firstB ls from h3.symm] at x0
    have HX := Aside0.mk x0
    clear hidx h2 h3 x0
    go_wp2_with (go_at_call 43; refine HI.out.mono ?_; rintro e w2 ⟨rfl, hb2⟩; have hx2 := pw_cell_below hb2 HX.out)
    go_loopw [6, 23] (fun s i wr => ∃ (k : Nat) (last : ByteArray) (done : List ByteArray), k ≤ ls.length ∧ done.length = k ∧ s = .string last ∧ i = .int .i64 k ∧ Aside0 (done ++ fillB last (ls.drop k) = resolvedB ls) ∧ Aside0 (Kd.R Kd.string 9 wr w.heap.size (fun _ => True) (.slice (some ad) ls.length cv) (done ++ ls.drop k)) ∧ Aside0 (Below w.heap.size w wr)) (fun _ i _ => ls.length - (intOf i).toNat)
    case atStart => exact ⟨0, firstB ls, [], Nat.zero_le _, rfl, rfl, rfl, ⟨rfl⟩, ⟨Kd.R_below hR'.out hb2⟩, ⟨HB.out.trans (hb2.mono HB.out.size)⟩⟩
    case round =>
      obtain ⟨k, last, done, hk, hdl, rfl, rfl, hD, hRc, hBc⟩ := hrel
      by_cases hlt : k < ls.length
      · have hl : (done ++ ls.drop k).length = ls.length := by rw [List.length_append, List.length_drop]; omega
        obtain ⟨g, cap, he, hg1, hg2, _⟩ := Kd.R_form hRc.out (by omega)
        injection he with e1 e2 e3
        injection e1 with e1
        subst e1; subst e3
        have hRn : Kd.R Kd.string 9 wr w.heap.size (fun _ => True) (.slice (some ⟨g, 0, none⟩) (done ++ ls.drop k).length cv) (done ++ ls.drop k) := by rw [hl]; exact hRc.out
        obtain ⟨x0, x1⟩ := Kd.R_cell (d := ByteArray.empty) hRn (k : Int) (by omega) (by omega)
        obtain ⟨x, hx⟩ : ∃ x, x = ls.getD k ByteArray.empty := ⟨_, rfl⟩
        have hdk : Aside0 (ls.drop k = x :: ls.drop (k + 1)) := ⟨by rw [hx]; exact drop_at ls ByteArray.empty k hlt⟩
        have hrd : rdOf ByteArray.empty (done ++ ls.drop k) (k : Int) = x := by
          show (done ++ ls.drop k).getD k ByteArray.empty = x
          rw [hdk.out, List.getD_eq_getElem?_getD, List.getElem?_append_right (by omega), hdl, Nat.sub_self]; rfl
        rw [hrd] at x0
        rw [show ((k : Int)).toNat = k from rfl] at x0 x1
        have HRn := Aside0.mk hRn
        have HG := Aside0.mk hg1
        clear hx hrd hRn e2 hg2
        by_cases hn : x = noneS
        · have t1 : (x.toList == ([] : List UInt8)) = true := by rw [hn, noneS_l]; decide
          have t2 : x.toList = [] := by rw [hn, noneS_l]
          have t3 : (x.toList.isEmpty) = true := by rw [t2]; rfl
          have HN := Aside0.mk hn
          obtain ⟨hp1, hp2⟩ := Kd.R_put HRn.out (k : Int) last
          have hp := Aside0.mk hp1
          have y0 : (wr.setCell ⟨g, k, none⟩ (.string last)).cell? ⟨g, k, none⟩ = some (.string last) := by simp [go_sem, x0]
          clear hn hp1 hp2
          go_wp2
          refine ⟨⟨k + 1, last, done ++ [last], by omega, by rw [List.length_append, hdl]; rfl, rfl, by go_num, ⟨?_⟩, ⟨?_⟩, ⟨hBc.out.setCell HG.out _⟩⟩, by simp [intOf]; omega⟩
          · rw [← hD.out, hdk.out, fillB, if_pos HN.out, List.append_assoc]; rfl
          · have hset : (done ++ ls.drop k).set k last = (done ++ [last]) ++ ls.drop (k + 1) := by
              rw [hdk.out, List.set_append, if_neg (by omega), hdl, Nat.sub_self, List.append_assoc]; rfl
            have h3 := hp.out
            rw [show ((k : Int)).toNat = k from rfl, hset, hl] at h3
            exact h3
        · have t1 : (x.toList == ([] : List UInt8)) = false := by rw [beq_eq_false_iff_ne]; exact fun h => hn ((noneS_iff x).1 h)
          have t2 : ¬ x.toList = [] := fun h => hn ((noneS_iff x).1 h)
          have t3 : (x.toList.isEmpty) = false := by rw [List.isEmpty_eq_false_iff]; exact t2
          have HN := Aside0.mk hn
          clear hn
          go_wp2
          refine ⟨⟨k + 1, x, done ++ [x], by omega, by rw [List.length_append, hdl]; rfl, rfl, by go_num, ⟨?_⟩, ⟨?_⟩, hBc⟩, by simp [intOf]; omega⟩
          · rw [← hD.out, hdk.out, fillB, if_neg HN.out, List.append_assoc]; rfl
          · have hset : (done ++ ls.drop k) = (done ++ [x]) ++ ls.drop (k + 1) := by rw [hdk.out, List.append_assoc]; rfl
            rw [← hset]; exact hRc.out
      · have e : ls.drop k = [] := List.drop_of_length_le (by omega)
        have hfin : Aside0 (Kd.R Kd.string 9 wr w.heap.size (fun _ => True) (.slice (some ad) ls.length cv) (resolvedB ls)) := ⟨by rw [← hD.out, e]; have := hRc.out; rw [e] at this; exact this⟩
        clear hD hRc e
        go_wp2
        go_ret
        exact ⟨_, rfl, hfin.out, hBc.out⟩

end Go.Proofs.Ytneelkaelcilfaa.PA

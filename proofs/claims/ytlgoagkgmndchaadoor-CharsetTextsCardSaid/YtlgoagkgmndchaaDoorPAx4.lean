-- Laid by hprint.py (this session's program, over the kit's print) for the seat YtlgoagkgmndchaaDoor. Lean checks it.
import Derived.Test.YtlgoagkgmndchaaDoorPAx0
import Derived.Test.YtlgoagkgmndchaaDoorPAx2
import Derived.Test.YtlgoagkgmndchaaDoorPAx3
namespace Go.Proofs.YtlgoagkgmndchaaDoor.PA
open Go.RowKit Go.Proofs.YtlgoagkgmndchaaDoorW.PrintWords Go.Proofs.YtlgoagkgmndchaaDoorW.PrintLast Go.Proofs.YtlgoagkgmndchaaDoorW.PrintMore
attribute [local go_sem] max2_int min2_int max_two min_two max_three min_three max_four min_four   -- for this text's walks alone
set_option linter.unusedVariables false
set_option linter.unusedSimpArgs false

/-! ### prelude ccheck -/
def twiceL (l : List Int) : List Int → Nat → Bool
  | [], _ => false
  | y :: r, i => (decide (0 ≤ y) && decide (byteR l y < (i : Int))) || twiceL l r (i + 1)
theorem rscalar_f (x : Int) : unicodetextref01_Scalar.f x = some (scalarB x) := by
  unfold unicodetextref01_Scalar.f unicodetextref01_Valid.f unicodetextref01_Surrogate.f scalarB
  by_cases h1 : x ≥ 0 <;> by_cases h2 : x ≤ 1114111 <;> by_cases h3 : x ≥ 55296 <;> by_cases h4 : x ≤ 57343 <;> simp [h1, h2, h3, h4]
theorem scalar_bounds {x : Int} (h : scalarB x = true) : 0 ≤ x ∧ x ≤ 1114111 := by
  unfold scalarB at h
  simp only [Bool.and_eq_true, decide_eq_true_eq] at h
  exact h.1
theorem not_bad {x : Int} (h : badI x = false) : x = -1 ∨ scalarB x = true := by
  unfold badI at h
  by_cases e : x = -1
  · exact .inl e
  · right
    rw [decide_eq_false e, Bool.not_false, Bool.true_and] at h
    cases hs : scalarB x with
    | true => rfl
    | false => rw [hs] at h; cases h
theorem check_l1 (l : List Int) (hl : l.length = 256) : ∀ (n i : Nat), i ≤ 256 → 256 - i = n → ∀ k, n + 300 < k → unicodetextref06_Check.l1 k (i : Int) l = some (if twiceL l (l.drop i) i = true then 5 else 0) := by
  intro n
  induction n with
  | zero =>
    intro i h1 h2 k hk
    obtain ⟨k, rfl⟩ : ∃ m, k = m + 1 := ⟨k - 1, by omega⟩
    rw [unicodetextref06_Check.l1, if_neg (by omega), List.drop_of_length_le (by omega), twiceL, if_neg (by decide)]
  | succ n ih =>
    intro i h1 h2 k hk
    obtain ⟨k, rfl⟩ : ∃ m, k = m + 1 := ⟨k - 1, by omega⟩
    have hn := ih (i + 1) (by omega) (by omega) k (by omega)
    have hw : wrap64 ((i : Int) + 1) = ((i + 1 : Nat) : Int) := by unfold wrap64; omega
    rw [unicodetextref06_Check.l1, if_pos (by omega), if_pos (by omega), if_pos (by omega), drop_at l 0 i (by omega), twiceL, hw, hn, rd_nat]
    by_cases h0 : 0 ≤ l.getD i 0
    · rw [if_pos h0, byte_f l _ (by omega) k (by omega), Option.bind_some, decide_eq_true h0, Bool.true_and]
      by_cases h3 : byteR l (l.getD i 0) < (i : Int)
      · rw [if_pos h3, decide_eq_true h3, Bool.true_or, if_pos rfl]
      · rw [if_neg h3, decide_eq_false h3, Bool.false_or]
    · rw [if_neg h0, decide_eq_false h0, Bool.false_and, Bool.false_or]
theorem check_l0 (l : List Int) (hl : l.length = 256) : ∀ (n i : Nat), i ≤ 256 → 256 - i = n → ∀ k, n + 600 < k → unicodetextref06_Check.l0 k (i : Int) l = some (if (l.drop i).any badI = true then 1 else if twiceL l l 0 = true then 5 else 0) := by
  intro n
  induction n with
  | zero =>
    intro i h1 h2 k hk
    obtain ⟨k, rfl⟩ : ∃ m, k = m + 1 := ⟨k - 1, by omega⟩
    have := check_l1 l hl 256 0 (Nat.zero_le _) rfl k (by omega)
    rw [List.drop_zero] at this
    rw [unicodetextref06_Check.l0, if_neg (by omega), List.drop_of_length_le (by omega), List.any_nil, if_neg (by decide)]
    exact this
  | succ n ih =>
    intro i h1 h2 k hk
    obtain ⟨k, rfl⟩ : ∃ m, k = m + 1 := ⟨k - 1, by omega⟩
    have hn := ih (i + 1) (by omega) (by omega) k (by omega)
    have hw : wrap64 ((i : Int) + 1) = ((i + 1 : Nat) : Int) := by unfold wrap64; omega
    rw [unicodetextref06_Check.l0, if_pos (by omega), if_pos (by omega), if_pos (by omega), drop_at l 0 i (by omega), List.any_cons, hw, hn, rd_nat]
    by_cases h0 : l.getD i 0 = -1
    · rw [if_pos h0]
      have : badI (l.getD i 0) = false := by rw [h0]; rfl
      rw [this, Bool.false_or]
    · rw [if_neg h0, rscalar_f, Option.bind_some]
      cases hs : scalarB (l.getD i 0) with
      | true =>
        have : badI (l.getD i 0) = false := by unfold badI; rw [hs, decide_eq_false h0]; rfl
        rw [if_pos rfl, this, Bool.false_or]
      | false =>
        have : badI (l.getD i 0) = true := by unfold badI; rw [hs, decide_eq_false h0]; rfl
        rw [if_neg (by decide), this, Bool.true_or, if_pos rfl]
theorem twice_dup (l : List Int) : ∀ (suf pre : List Int), l = pre ++ suf → suf.any badI = false → twiceL l suf pre.length = dupI pre suf := by
  intro suf
  induction suf with
  | nil => intro pre _ _; rfl
  | cons y r ih =>
    intro pre hl hb
    rw [List.any_cons, Bool.or_eq_false_iff] at hb
    have h1 := ih (pre ++ [y]) (by rw [hl, List.append_assoc]; rfl) hb.2
    rw [List.length_append, List.length_singleton] at h1
    rw [twiceL, dupI, h1]
    congr 1
    by_cases e : y = -1
    · rw [decide_eq_true e, decide_eq_false (by omega : ¬ 0 ≤ y)]; rfl
    · have h0 : 0 ≤ y := by
        rcases not_bad hb.1 with h | h
        · exact absurd h e
        · exact (scalar_bounds h).1
      rw [decide_eq_false e, decide_eq_true h0, Bool.not_false, Bool.true_and, Bool.true_and]
      unfold byteR
      rw [hl, byteL_app pre (y :: r) 0 y h0]
      cases hp : pre.any fun z => decide (z = y) with
      | true => rw [if_pos rfl]; exact decide_eq_true (by have := byteL_in pre 0 y h0 hp; omega)
      | false => rw [if_neg (by decide), byteL, if_pos ⟨h0, rfl⟩]; exact decide_eq_false (by omega)
theorem rcheck_f (l : List Int) (k : Nat) (hk : 1000 < k) : unicodetextref06_Check.f k l = some (checkB l) := by
  unfold unicodetextref06_Check.f checkB
  by_cases hl : l.length = 256
  · have := check_l0 l hl 256 0 (Nat.zero_le _) rfl k (by omega)
    rw [List.drop_zero] at this
    rw [if_pos (by omega), if_pos hl]
    refine this.trans ?_
    by_cases hb : l.any badI = true
    · rw [if_pos hb, if_pos hb]
    · rw [if_neg hb, if_neg hb]
      have hd := twice_dup l l [] rfl (by cases h : l.any badI with | true => exact absurd h hb | false => rfl)
      rw [List.length_nil] at hd
      rw [hd]
  · rw [if_neg (by omega), if_neg hl]
theorem pcheck_f (l : List Int) (h : intsB l = true) : charset_Check.f l = some (checkB l) := if_pos h

/-! ### charset_known: function 23 -/
def charset_known.f (a0 : Int) : Option (Bool) := if a0 ≥ 1 then (some (decide (a0 ≤ 4))) else (some false)
set_option maxHeartbeats 8000000 in
set_option maxRecDepth 100000 in
theorem charset_known.calls (a0 : Int) (r : Bool) (w : World) (h : charset_known.f a0 = some r) :
    Calls Tryd.prog 23 #[.int .i64 a0] w fun e w' => e = .returned (.bool r) ∧ Drawn0 w w' := by
  have H : (if a0 ≥ 1 then (some (decide (a0 ≤ 4))) else (some false)) = some r := h
  clear h
  by_cases c2 : a0 ≥ 1
  · rw [if_pos c2] at H
    have c2b0 : decide (1 ≤ a0) = true := decide_eq_true c2
    clear c2
    obtain rfl := Option.some.inj H
    go_enter Tryd.func23, Tryd.ntmps23
    go_wp2
    go_ret
    exact ⟨by first | rfl | (simp; done) | (simp [*]; done), by repeat (first | exact Drawn0.refl _ | apply Drawn0.step)⟩
  · rw [if_neg c2] at H
    have c2b0 : decide (1 ≤ a0) = false := decide_eq_false c2
    clear c2
    obtain rfl := Option.some.inj H
    go_enter Tryd.func23, Tryd.ntmps23
    go_wp2
    go_ret
    exact ⟨by first | rfl | (simp; done) | (simp [*]; done), by repeat (first | exact Drawn0.refl _ | apply Drawn0.step)⟩

/-! ### codepoint_Hex: function 26 -/
def dgU (x : Int) : UInt8 := UInt8.ofNat (if x < 10 then 48 + x.toNat else 55 + x.toNat)
def hexL : Nat → Int → List UInt8 → List UInt8
  | 0, _, acc => acc
  | k + 1, c, acc => if acc.length < 4 ∨ 0 < c then hexL k (c / 16) (dgU (c % 16) :: acc) else acc
def hexB (c : Int) : ByteArray := if 0 ≤ c ∧ c ≤ 1114111 then ⟨(hexL 7 c []).toArray⟩ else ⟨#[]⟩
theorem all16 {p : Nat → Prop} (h0 : p 0) (h1 : p 1) (h2 : p 2) (h3 : p 3) (h4 : p 4) (h5 : p 5) (h6 : p 6) (h7 : p 7) (h8 : p 8) (h9 : p 9) (h10 : p 10) (h11 : p 11) (h12 : p 12) (h13 : p 13) (h14 : p 14) (h15 : p 15) : ∀ i, i < 16 → p i := by
  intro i hi
  match i, hi with
  | 0, _ => exact h0
  | 1, _ => exact h1
  | 2, _ => exact h2
  | 3, _ => exact h3
  | 4, _ => exact h4
  | 5, _ => exact h5
  | 6, _ => exact h6
  | 7, _ => exact h7
  | 8, _ => exact h8
  | 9, _ => exact h9
  | 10, _ => exact h10
  | 11, _ => exact h11
  | 12, _ => exact h12
  | 13, _ => exact h13
  | 14, _ => exact h14
  | 15, _ => exact h15
  | i + 16, hi => exact absurd hi (by omega)
theorem all6 {p : Nat → Prop} (h0 : p 0) (h1 : p 1) (h2 : p 2) (h3 : p 3) (h4 : p 4) (h5 : p 5) : ∀ i, i < 6 → p i := by
  intro i hi
  match i, hi with
  | 0, _ => exact h0
  | 1, _ => exact h1
  | 2, _ => exact h2
  | 3, _ => exact h3
  | 4, _ => exact h4
  | 5, _ => exact h5
  | i + 6, hi => exact absurd hi (by omega)
theorem and15 (n : Int) : bits .and .i64 n 15 = n % 16 := by
  have h15 : (BitVec.ofInt 64 15).toNat = 2 ^ 4 - 1 := by decide
  have key : (BitVec.ofInt 64 n &&& BitVec.ofInt 64 15).toNat = (n % ((2 ^ 64 : Nat) : Int)).toNat % 2 ^ 4 := by
    rw [BitVec.toNat_and, BitVec.toNat_ofInt, h15, Nat.and_two_pow_sub_one_eq_mod]
  show IntKind.i64.wrap ((BitVec.ofInt 64 n &&& BitVec.ofInt 64 15).toNat : Nat) = n % 16
  rw [key, IntKind.wrap_i64]
  omega
theorem valid_f (x : Int) : codepoint_Valid.f x = some (decide (0 ≤ x) && decide (x ≤ 1114111)) := by
  unfold codepoint_Valid.f
  by_cases h1 : x ≥ 0 <;> by_cases h2 : x ≤ 1114111 <;> simp [h1, h2]
theorem addA (b n j : Nat) : (⟨b, n, none⟩ : Addr).add j = ⟨b, n + j, none⟩ := by
  simp only [Addr.add]
  try (split <;> simp_all)
theorem rets {a b : ByteArray} (h : a = b) : Ending.returned (.string a) = .returned (.string b) := by rw [h]
def codepoint_Hex.f (a0 : Int) : Option ByteArray := some (hexB a0)
set_option maxHeartbeats 1600000 in
set_option maxRecDepth 100000 in
theorem codepoint_Hex.calls (a0 : Int) (r : ByteArray) (w : World) (h : codepoint_Hex.f a0 = some r) :
    Calls Tryd.prog 26 #[.int .i64 a0] w fun e w' => e = .returned (.string r) ∧ Below w.heap.size w w' := by
  unfold codepoint_Hex.f at h
  obtain rfl := Option.some.inj h
  clear h
  have HV := Aside0.mk (valid_f a0)
  go_enter Tryd.func26, Tryd.ntmps26
  by_cases hv : 0 ≤ a0 ∧ a0 ≤ 1114111
  case neg =>
    have hv2 : (decide (0 ≤ a0) && decide (a0 ≤ 1114111)) = false := by
      rw [Bool.and_eq_false_iff, decide_eq_false_iff_not, decide_eq_false_iff_not]; omega
    rw [hv2] at HV
    have HR : Aside0 (hexB a0 = ⟨#[]⟩) := ⟨by unfold hexB; rw [if_neg hv]⟩
    clear hv2
    go_wp2_with (go_at_call 40; refine (codepoint_Valid.calls _ _ _ HV.out).mono ?_; rintro e w1 ⟨rfl, hd⟩; have hb := hd.below; clear hd)
    go_ret
    exact ⟨rets HR.out.symm, hb⟩
  have hv2 : (decide (0 ≤ a0) && decide (a0 ≤ 1114111)) = true := by
    rw [decide_eq_true hv.1, decide_eq_true hv.2]; rfl
  rw [hv2] at HV
  have HR : Aside0 (hexB a0 = ⟨(hexL 7 a0 []).toArray⟩) := ⟨by unfold hexB; rw [if_pos hv]⟩
  have HV0 := Aside0.mk hv
  clear hv2 hv
  go_wp2_with (go_at_call 40; refine (codepoint_Valid.calls _ _ _ HV.out).mono ?_; rintro e w1 ⟨rfl, hd⟩; have hb := hd.below; clear hd)
  have HB1 := Aside0.mk hb
  have hbs := hb.size
  clear hb
  go_loopw [0, 5] (fun c i wr => ∃ (x : Int) (acc : List UInt8) (n : Nat), acc.length + n = 6 ∧ c = .int .i64 x ∧ i = .int .i64 n ∧ 0 ≤ x ∧ x ≤ 1114111 ∧ Aside0 (x < 16 ^ n) ∧ Aside0 (hexL (n + 1) x acc = hexL 7 a0 []) ∧ Aside0 (∀ i, i < 16 → wr.cell? ⟨w1.heap.size, i, none⟩ = some (.int .u8 ((dgU i).toNat : Nat))) ∧ Aside0 (∀ i, i < 6 → wr.cell? ⟨w1.heap.size + 1, i, none⟩ = some (.int .u8 (if i < n then 0 else ((acc.getD (i - n) 0).toNat : Int)))) ∧ Aside0 (∀ i, wr.frozen? ⟨w1.heap.size + 1, i, none⟩ = false) ∧ Aside0 (Below w.heap.size w wr)) (fun _ i _ => (intOf i).toNat)
  case atStart =>
    refine ⟨a0, [], 6, rfl, rfl, rfl, HV0.out.1, HV0.out.2, ⟨?_⟩, ⟨rfl⟩, ⟨?_⟩, ⟨?_⟩, ⟨fun i => by simp⟩, ⟨?_⟩⟩
    · have := HV0.out; have e : (16 : Int) ^ 6 = 16777216 := by decide
      omega
    · refine all16 ?_ ?_ ?_ ?_ ?_ ?_ ?_ ?_ ?_ ?_ ?_ ?_ ?_ ?_ ?_ ?_ <;> (simp; try rfl)
    · refine all6 ?_ ?_ ?_ ?_ ?_ ?_ <;> simp
    · exact below_alloc (below_alloc HB1.out _) _
  case round =>
    obtain ⟨x, acc, n, hn, rfl, rfl, hx0, hx1, hP, hL, HD, HA, HF, hB⟩ := hrel
    by_cases h1 : 0 < x
    · have hn0 : 0 < n := by
        rcases Nat.eq_zero_or_pos n with e | e
        · have := hP.out; rw [e] at this; omega
        · exact e
      obtain ⟨m, rfl⟩ : ∃ m, n = m + 1 := ⟨n - 1, by omega⟩
      obtain ⟨q, hqe⟩ : ∃ q : Nat, x % 16 = (q : Int) := ⟨(x % 16).toNat, by omega⟩
      have HQ := Aside0.mk hqe
      have hq16 : q < 16 := by omega
      have e1 : bits .and .i64 x 15 = (q : Int) := by rw [and15]; exact hqe
      have d0 := HD.out q (by omega)
      have b0 := HA.out m (by omega)
      have f0 := HF.out m
      rw [if_pos (by omega)] at b0
      have hgo : Aside0 (acc.length < 4 ∨ 0 < x) := ⟨by omega⟩
      clear hqe
      go_wp2
      go_roundw
      case rel =>
        refine ⟨x / 16, dgU (q : Int) :: acc, m, by rw [List.length_cons]; omega, by go_num, by go_num, by omega, by omega, ⟨?_⟩, ⟨?_⟩, ⟨fun i hi => ?_⟩, ⟨fun i hi => ?_⟩, ⟨fun i => ?_⟩, ⟨?_⟩⟩
        · have := hP.out; rw [Int.pow_succ] at this; omega
        · rw [← hL.out, ← HQ.out]; conv => rhs; rw [hexL, if_pos hgo.out]
        · rw [World.cell?_setCell_other _ _ _ _ (by intro e; injection e with e; omega)]; exact HD.out i hi
        · by_cases e : i = m
          · subst e; rw [World.cell?_setCell_same _ _ _ b0, if_neg (by omega), Nat.sub_self]; rfl
          · rw [World.cell?_setCell_other _ _ _ _ (by intro e2; injection e2 with e2 e3; omega), HA.out i hi]
            by_cases e3 : i < m
            · rw [if_pos (by omega), if_pos e3]
            · rw [if_neg (by omega), if_neg e3, show i - m = (i - (m + 1)) + 1 from by omega, List.getD_cons_succ]
        · rw [World.frozen?_setCell]; exact HF.out i
        · exact hB.out.setCell (by show w.heap.size ≤ w1.heap.size + 1; omega) _
      case measure => first | (simp [intOf]; done) | (simp [intOf]; omega)
    · by_cases h2 : 2 < n
      · have hn0 : 0 < n := by omega
        obtain ⟨m, rfl⟩ : ∃ m, n = m + 1 := ⟨n - 1, by omega⟩
        obtain ⟨q, hqe⟩ : ∃ q : Nat, x % 16 = (q : Int) := ⟨(x % 16).toNat, by omega⟩
        have HQ := Aside0.mk hqe
        have hq16 : q < 16 := by omega
        have e1 : bits .and .i64 x 15 = (q : Int) := by rw [and15]; exact hqe
        have d0 := HD.out q (by omega)
        have b0 := HA.out m (by omega)
        have f0 := HF.out m
        rw [if_pos (by omega)] at b0
        have hgo : Aside0 (acc.length < 4 ∨ 0 < x) := ⟨by omega⟩
        clear hqe
        go_wp2
        go_roundw
        case rel =>
          refine ⟨x / 16, dgU (q : Int) :: acc, m, by rw [List.length_cons]; omega, by go_num, by go_num, by omega, by omega, ⟨?_⟩, ⟨?_⟩, ⟨fun i hi => ?_⟩, ⟨fun i hi => ?_⟩, ⟨fun i => ?_⟩, ⟨?_⟩⟩
          · have := hP.out; rw [Int.pow_succ] at this; omega
          · rw [← hL.out, ← HQ.out]; conv => rhs; rw [hexL, if_pos hgo.out]
          · rw [World.cell?_setCell_other _ _ _ _ (by intro e; injection e with e; omega)]; exact HD.out i hi
          · by_cases e : i = m
            · subst e; rw [World.cell?_setCell_same _ _ _ b0, if_neg (by omega), Nat.sub_self]; rfl
            · rw [World.cell?_setCell_other _ _ _ _ (by intro e2; injection e2 with e2 e3; omega), HA.out i hi]
              by_cases e3 : i < m
              · rw [if_pos (by omega), if_pos e3]
              · rw [if_neg (by omega), if_neg e3, show i - m = (i - (m + 1)) + 1 from by omega, List.getD_cons_succ]
          · rw [World.frozen?_setCell]; exact HF.out i
          · exact hB.out.setCell (by show w.heap.size ≤ w1.heap.size + 1; omega) _
        case measure => first | (simp [intOf]; done) | (simp [intOf]; omega)
      · have hfin : Aside0 (hexB a0 = ⟨acc.toArray⟩) := ⟨by
          rw [HR.out, ← hL.out, hexL, if_neg (by omega)]⟩
        have hcv := Aside0.mk (run_convert_bytes_back (P := Tryd.prog) wr 51 9 5 ⟨w1.heap.size + 1, n, none⟩ acc.length acc Tryd.underlying51 Tryd.underlying5 Tryd.underlying9 (fun j hj => by
          rw [addA, HA.out (n + j) (by omega), if_neg (by omega), show n + j - n = j from by omega, List.getD_eq_getElem?_getD, List.getElem?_eq_getElem hj]; rfl))
        have hal : Program.arrayLen Tryd.prog 73 = 6 := by kernel_rfl
        have hel : Program.elem Tryd.prog 73 = 5 := by kernel_rfl
        have hsl : (Instr.sliceAt 73 (.pointer (some ⟨w1.heap.size + 1, 0, none⟩)) (some (.int .i64 (n : Int))) none none).run Tryd.prog wr = .ok (.slice (some ⟨w1.heap.size + 1, n, none⟩) acc.length acc.length) wr := by
          have hsz : (sizeOf 5).run Tryd.prog wr = .ok 1 wr := by kernel_rfl
          rw [run_sliceAt_array_l wr 73 _ (by rw [hal, hel]; exact Tryd.underlying73) .i64 n (by omega) (by rw [hal]; omega), hel, hsz, hal]
          show Result.ok (slicedAt _ n 6 6 1) wr = _
          unfold slicedAt
          rw [if_neg (by omega), show 6 - n = acc.length from by omega, Nat.mul_one]
          rw [addA, Nat.zero_add]
        have hcv2 := hcv.out
        clear hal hel
        go_wp2
        go_ret
        exact ⟨rets hfin.out.symm, hB.out⟩

/-! ### bits_Mul64: function 53 -/
def bits_Mul64.f (a0 : Int) (a1 : Int) : Option (Int × Int) := some (IntKind.u64.wrap ((IntKind.u64.wrap ((IntKind.u64.wrap ((a0 / 4294967296) * (a1 / 4294967296))) + ((IntKind.u64.wrap ((IntKind.u64.wrap ((a0 / 4294967296) * (Go.bits .and .u64 a1 4294967295))) + ((IntKind.u64.wrap ((Go.bits .and .u64 a0 4294967295) * (Go.bits .and .u64 a1 4294967295))) / 4294967296))) / 4294967296))) + ((IntKind.u64.wrap ((Go.bits .and .u64 (IntKind.u64.wrap ((IntKind.u64.wrap ((a0 / 4294967296) * (Go.bits .and .u64 a1 4294967295))) + ((IntKind.u64.wrap ((Go.bits .and .u64 a0 4294967295) * (Go.bits .and .u64 a1 4294967295))) / 4294967296))) 4294967295) + (IntKind.u64.wrap ((Go.bits .and .u64 a0 4294967295) * (a1 / 4294967296))))) / 4294967296)), IntKind.u64.wrap (a0 * a1))
set_option maxHeartbeats 8000000 in
set_option maxRecDepth 100000 in
theorem bits_Mul64.calls (a0 : Int) (a1 : Int) (r1 : Int) (r2 : Int) (w : World) (h : bits_Mul64.f a0 a1 = some (r1, r2)) :
    Calls Tryd.prog 53 #[.int .u64 a0, .int .u64 a1] w fun e w' => e = .returned (.tuple #[.int .u64 r1, .int .u64 r2]) ∧ Drawn0 w w' := by
  have H : (some (IntKind.u64.wrap ((IntKind.u64.wrap ((IntKind.u64.wrap ((a0 / 4294967296) * (a1 / 4294967296))) + ((IntKind.u64.wrap ((IntKind.u64.wrap ((a0 / 4294967296) * (Go.bits .and .u64 a1 4294967295))) + ((IntKind.u64.wrap ((Go.bits .and .u64 a0 4294967295) * (Go.bits .and .u64 a1 4294967295))) / 4294967296))) / 4294967296))) + ((IntKind.u64.wrap ((Go.bits .and .u64 (IntKind.u64.wrap ((IntKind.u64.wrap ((a0 / 4294967296) * (Go.bits .and .u64 a1 4294967295))) + ((IntKind.u64.wrap ((Go.bits .and .u64 a0 4294967295) * (Go.bits .and .u64 a1 4294967295))) / 4294967296))) 4294967295) + (IntKind.u64.wrap ((Go.bits .and .u64 a0 4294967295) * (a1 / 4294967296))))) / 4294967296)), IntKind.u64.wrap (a0 * a1))) = some (r1, r2) := h
  clear h
  simp only [Option.some.injEq, Prod.mk.injEq] at H
  obtain ⟨rfl, rfl⟩ := H
  go_enter Tryd.func53, Tryd.ntmps53
  go_wp2
  go_ret2
  exact ⟨by first | rfl | (simp; done) | (simp [*]; done), by repeat (first | exact Drawn0.refl _ | apply Drawn0.step)⟩

/-! ### bits_Mul: function 45 -/
def bits_Mul.f (a0 : Int) (a1 : Int) : Option (Int × Int) := (bits_Mul64.f a0 a1).bind fun bt115 => (some (bt115.1, bt115.2))
set_option maxHeartbeats 8000000 in
set_option maxRecDepth 100000 in
theorem bits_Mul.calls (a0 : Int) (a1 : Int) (r1 : Int) (r2 : Int) (w : World) (h : bits_Mul.f a0 a1 = some (r1, r2)) :
    Calls Tryd.prog 45 #[.int .u64 a0, .int .u64 a1] w fun e w' => e = .returned (.tuple #[.int .u64 r1, .int .u64 r2]) ∧ Drawn0 w w' := by
  have H : ((bits_Mul64.f a0 a1).bind fun bt115 => (some (bt115.1, bt115.2))) = some (r1, r2) := h
  clear h
  replace H := Option.bind_eq_some_iff.mp H
  obtain ⟨⟨t115, t116⟩, A30, H⟩ := H
  replace H : (some (t115, t116)) = some (r1, r2) := H
  have A3 := Aside0.mk A30
  clear A30
  simp only [Option.some.injEq, Prod.mk.injEq] at H
  obtain ⟨rfl, rfl⟩ := H
  go_enter Tryd.func45, Tryd.ntmps45
  go_wp2_with (first | ((with_reducible refine gate_callee (f := 53) rfl ?_); refine goesL_ (some 25) rfl rfl Tryd.func53 (by kernel_rfl) rfl #[.int .u64 a0, .int .u64 a1] rfl (by (try simp only [List.map_toArray, List.map_cons, List.map_nil]); first | done | rfl | (simp only [List.length_drop, List.length_take]; rfl)) ?_; (with_reducible refine (bits_Mul64.calls a0 a1 t115 t116 _ A3.out).mono ?_); rintro e w' ⟨rfl, ⟨nd, rfl⟩⟩; refine ⟨_, rfl, ?_⟩))
  go_ret2
  exact ⟨by first | rfl | (simp; done) | (simp [*]; done), by repeat (first | exact Drawn0.refl _ | apply Drawn0.step)⟩

/-! ### slices_Repeat_int_int: function 32 -/
def slices_Repeat___int_int.f (l0 : List Int) (a1 : Int) : Option (List Int) := none
def cellsI (l : List Int) : List Value := l.map (.int .i64)
theorem cellsI_rep (n : Nat) (x : Int) : cellsI (List.replicate n x) = List.replicate n (.int .i64 x) := by unfold cellsI; rw [List.map_replicate]
theorem make256 (w : World) : (Instr.makeSlice 22 (.int .i64 256) (.int .i64 256)).run Tryd.prog w = .ok (.slice (some ⟨w.heap.size, 0, none⟩) 256 256) (w.alloc (.cells (cellsI (List.replicate 256 0)).toArray 3)) := by
  have h : (Tryd.prog.info? 3).map (fun i => (i.zero, i.size, i.bytes)) = some (some (.int .i64 0), 1, 8) := by kernel_rfl
  cases hi : Tryd.prog.info? 3 with
  | none => rw [hi] at h; cases h
  | some i =>
    rw [hi] at h
    have h2 : i.zero = some (.int .i64 0) ∧ i.size = 1 ∧ i.bytes = 8 := by injection h with h; injection h with h3 h4; injection h4 with h5 h6; exact ⟨h3, h5, h6⟩
    have := run_makeSlice (P := Tryd.prog) w 22 3 i (.int .i64 0) Tryd.underlying22 hi h2.1 .i64 .i64 256 256 (by decide) (by decide) (by rw [h2.2.1]; decide) (by rw [h2.2.2]; decide) (by decide)
    rw [this, h2.2.1]
    congr 3
    kernel_rfl
theorem copyI (w : World) (B o dLen dCap : Nat) (a : Addr) (sLen sCap : Nat) (cur cs : List Int) (hg : w.heap[B]? = some (.cells (cellsI cur).toArray 3 (0, 0))) (hn : cs.length = Nat.min sLen dLen) (hsrc : ∀ j v, (cellsI cs)[j]? = some v → w.cell? (a.add j) = some v) (hfit : o + cs.length ≤ cur.length) :
    ∃ w', (Builtin.copy_ #[22, 22] 3 #[.slice (some ⟨B, o, none⟩) dLen dCap, .slice (some a) sLen sCap]).run Tryd.prog w = .ok (.int .i64 (cs.length : Nat)) w' ∧ w'.heap[B]? = some (.cells (cellsI (cur.take o ++ cs ++ cur.drop (o + cs.length))).toArray 3 (0, 0)) ∧ ∀ b, b ≤ B → Below b w w' := by
  have hl : (cellsI cs).length = cs.length := by unfold cellsI; rw [List.length_map]
  have hlc : (cellsI cur).length = cur.length := by unfold cellsI; rw [List.length_map]
  have h := run_copy_row (P := Tryd.prog) w 22 22 3 3 B o dLen dCap a sLen sCap (cellsI cur).toArray 3 (cellsI cs) Tryd.underlying22 (by kernel_rfl) hg (by rw [hl]; exact hn) hsrc (by rw [hl]; simpa [hlc] using hfit) (fun v hv => by unfold cellsI at hv; obtain ⟨x, _, rfl⟩ := List.mem_map.1 hv; rfl)
  rw [hl] at h
  refine ⟨w.setRow B (List.take o (cellsI cur).toArray.toList ++ cellsI cs ++ List.drop (o + cs.length) (cellsI cur).toArray.toList).toArray, h, ?_, fun b hb => ⟨rfl, rfl, rfl, by simp [World.setRow], fun k hk => setRow_other w B k _ (by omega)⟩⟩
  rw [setRow_heap _ _ _ _ _ _ hg]
  unfold cellsI
  simp [List.map_append, List.map_take, List.map_drop]
theorem cellI_at {w : World} {B : Nat} {l : List Int} (h : w.heap[B]? = some (.cells (cellsI l).toArray 3 (0, 0))) (j : Nat) (v : Value) (hv : (cellsI l)[j]? = some v) : w.cell? ⟨B, j, none⟩ = some v := by
  unfold World.cell?
  simp [h, hv]
set_option maxHeartbeats 1600000 in
set_option maxRecDepth 100000 in
theorem repeat_calls (A0 : Option Addr) (c0 : Nat) (x : Int) (w : World) (hr0 : Kd.C (Kd.int .i64) w A0 1 [x]) (hc0 : 1 ≤ c0) :
    Calls Tryd.prog 32 #[.slice A0 1 c0, .int .i64 256] w fun e w' => ∃ B, e = .returned (.slice (some ⟨B, 0, none⟩) 256 256) ∧ w.heap.size ≤ B ∧ w'.heap[B]? = some (.cells (cellsI (List.replicate 256 x)).toArray 3 (0, 0)) ∧ Below w.heap.size w w' := by
  have R0 := Aside0.mk hr0
  have hm : bits_Mul.f 1 256 = some (0, 256) := by kernel_rfl
  have HM := Aside0.mk hm
  obtain ⟨ad, e, x0⟩ := Kd.at_int hr0 (0 : Int) (by omega) (by omega)
  subst e
  clear hr0 hm
  obtain ⟨Z, hZ⟩ : ∃ Z : List Int, Z = List.replicate 256 0 := ⟨_, rfl⟩
  have hmk : ∀ w : World, (Instr.makeSlice 22 (.int .i64 256) (.int .i64 256)).run Tryd.prog w = .ok (.slice (some ⟨w.heap.size, 0, none⟩) 256 256) (w.alloc (.cells (cellsI Z).toArray 3)) := by rw [hZ]; exact make256
  have HZ := Aside0.mk hZ
  clear hZ
  go_enter Tryd.func32, Tryd.ntmps32
  go_wp2_with (go_at_call 45; refine (bits_Mul.calls _ _ _ _ _ HM.out).mono ?_; rintro e w1 ⟨rfl, hd⟩; have hb := hd.below; clear hd)
  have hh0 : (w1.alloc (.cells (cellsI Z).toArray 3)).heap[w1.heap.size]? = some (.cells (cellsI Z).toArray 3 (0, 0)) := (MapKept.heap_alloc w1 _).1
  have hx1 := pw_cell_below (below_alloc hb (.cells (cellsI Z).toArray 3)) x0
  obtain ⟨w2, hc1, hh1, hb1⟩ := copyI (w1.alloc (.cells (cellsI Z).toArray 3)) w1.heap.size 0 256 256 ad 1 c0 Z [x] hh0 rfl (fun j v hv => by
    cases j with
    | zero => cases hv; rw [show ad.add 0 = ad.add ((0 : Int)).toNat from rfl]; exact hx1
    | succ j => cases hv) (by rw [HZ.out]; simp)
  have hsz1 : w.heap.size ≤ w1.heap.size := hb.size
  have HB2 := Aside0.mk ((below_alloc hb (.cells (cellsI Z).toArray 3)).trans (hb1 w.heap.size hsz1))
  have HH2 : Aside0 (w2.heap[w1.heap.size]? = some (.cells (cellsI (List.replicate 1 x ++ List.replicate 255 0)).toArray 3 (0, 0))) := ⟨by rw [hh1, HZ.out]; rfl⟩
  have hc1 : (Builtin.copy_ #[22, 22] 3 #[.slice (some ⟨w1.heap.size, 0, none⟩) 256 256, .slice (some ad) 1 c0]).run Tryd.prog (w1.alloc (.cells (cellsI Z).toArray 3)) = .ok (.int .i64 1) w2 := hc1
  clear hb1 hh1 hx1 hh0
  go_wp2
  rw [hc1]
  go_wp2
  go_loopw [8] (fun i wr => ∃ k : Nat, i = .int .i64 k ∧ 1 ≤ k ∧ k ≤ 256 ∧ Aside0 (wr.heap[w1.heap.size]? = some (.cells (cellsI (List.replicate k x ++ List.replicate (256 - k) 0)).toArray 3 (0, 0))) ∧ Aside0 (Below w.heap.size w wr)) (fun i _ => 256 - (intOf i).toNat)
  case atStart => exact ⟨1, rfl, by omega, by omega, HH2, HB2⟩
  case round =>
    obtain ⟨k, rfl, h1, h2, hH, hB⟩ := hrel
    by_cases hlt : k < 256
    · obtain ⟨m, hm⟩ : ∃ m, m = min k (256 - k) := ⟨_, rfl⟩
      have hm1 : 1 ≤ m ∧ m ≤ k ∧ k + m ≤ 256 := by omega
      have HMm := Aside0.mk hm
      clear hm
      obtain ⟨w3, hc3, hh3, hb3⟩ := copyI wr.drew w1.heap.size k (256 - k) (256 - k) ⟨w1.heap.size, 0, none⟩ k 256 (List.replicate k x ++ List.replicate (256 - k) 0) (List.replicate m x) hH.out (by rw [List.length_replicate, HMm.out]) (fun j v hv => by
        have hj : j < m := by
          have := (List.getElem?_eq_some_iff.1 hv).1
          unfold cellsI at this; rwa [List.length_map, List.length_replicate] at this
        have e : (cellsI (List.replicate k x ++ List.replicate (256 - k) 0))[j]? = some v := by
          rw [← hv]; unfold cellsI
          rw [List.getElem?_map, List.getElem?_map, List.getElem?_append_left (by rw [List.length_replicate]; omega), List.getElem?_replicate, List.getElem?_replicate, if_pos (by omega), if_pos hj]
        have := cellI_at hH.out j v e
        rw [addA, Nat.zero_add]; exact this) (by simp; omega)
      have HB3 := Aside0.mk ((below_drew hB.out).trans (hb3 w.heap.size hsz1))
      have e3 : (List.replicate k x ++ List.replicate (256 - k) 0).take k ++ List.replicate m x ++ (List.replicate k x ++ List.replicate (256 - k) 0).drop (k + (List.replicate m x).length) = List.replicate (k + m) x ++ List.replicate (256 - (k + m)) 0 := by
        rw [List.length_replicate, List.take_left' (by simp), List.drop_append, List.drop_of_length_le (by simp)]
        simp [Nat.sub_sub]
      rw [e3] at hh3
      have HH3 := Aside0.mk hh3
      rw [List.length_replicate] at hc3
      clear hh3 hb3 e3
      have i1 : (0 : Int) ≤ (k : Int) := by omega
      have i2 : (k : Int) ≤ 256 := by omega
      go_wp2
      go_region_held3 (fun _ => True)
        (first
          | go_keep
          | trivial)
        (first
          | (go_at_call 1000000; skip))
      all_goals
        go_wp2
        have hw : IntKind.i64.wrap ((k : Int) + (m : Int)) = ((k + m : Nat) : Int) := by rw [IntKind.wrap_i64]; omega
        refine ⟨⟨k + m, by rw [hw], by omega, by omega, HH3, HB3⟩, ?_⟩
        rw [hw]
        simp [intOf]; omega
    · go_wp2
      go_ret
      obtain rfl : k = 256 := by omega
      refine ⟨w1.heap.size, rfl, hsz1, ?_, hB.out⟩
      have := hH.out
      rw [show 256 - 256 = 0 from rfl, List.replicate_zero, List.append_nil] at this
      exact this

/-! ### strings_Split: function 33 -/
noncomputable def splitRen : Go.Shelf.Ren := ⟨fun | 146 => 33 | 221 => 46 | 268 => 54 | 138 => 55 | 143 => 56 | 195 => 60 | 197 => 61 | 218 => 62 | 219 => 63 | 260 => 65 | 217 => 57 | 225 => 66 | 224 => 67 | 267 => 68 | 266 => 64 | 314 => 69 | n => n, fun | 9 => 9 | 31 => 40 | 3 => 3 | 4 => 4 | 0 => 0 | 105 => 94 | 21 => 21 | 5 => 5 | 46 => 74 | 119 => 97 | 139 => 100 | 138 => 99 | 146 => 84 | 51 => 83 | n => n, fun | 1 => (Tryd.prog.globals.findIdx? (·.name == "internal/bytealg.MaxLen")).getD 0 | 3 => (Tryd.prog.globals.findIdx? (·.name == "unicode/utf8.first")).getD 0 | 4 => (Tryd.prog.globals.findIdx? (·.name == "unicode/utf8.acceptRanges")).getD 0 | n => n⟩
theorem splitLays : Go.Proofs.Lays.n146 Tryd.prog splitRen := {
  mixed := by kernel_rfl
  f138 := Tryd.func55.trans (congrArg some (by kernel_rfl))
  f143 := Tryd.func56.trans (congrArg some (by kernel_rfl))
  f146 := Tryd.func33.trans (congrArg some (by kernel_rfl))
  f195 := Tryd.func60.trans (congrArg some (by kernel_rfl))
  f197 := Tryd.func61.trans (congrArg some (by kernel_rfl))
  f217 := Tryd.func57.trans (congrArg some (by kernel_rfl))
  f218 := Tryd.func62.trans (congrArg some (by kernel_rfl))
  f219 := Tryd.func63.trans (congrArg some (by kernel_rfl))
  f221 := Tryd.func46.trans (congrArg some (by kernel_rfl))
  f224 := Tryd.func67.trans (congrArg some (by kernel_rfl))
  f225 := Tryd.func66.trans (congrArg some (by kernel_rfl))
  f260 := Tryd.func65.trans (congrArg some (by kernel_rfl))
  f266 := Tryd.func64.trans (congrArg some (by kernel_rfl))
  f267 := Tryd.func68.trans (congrArg some (by kernel_rfl))
  f268 := Tryd.func54.trans (congrArg some (by kernel_rfl))
  f314 := Tryd.func69.trans (congrArg some (by kernel_rfl))
  t0 := Tryd.underlying0
  a0 := Tryd.isAgg0
  z0 := Tryd.sizeOf0
  v0 := Tryd.zeroValue0
  t3 := Tryd.underlying3
  a3 := Tryd.isAgg3
  z3 := Tryd.sizeOf3
  v3 := Tryd.zeroValue3
  t4 := Tryd.underlying4
  a4 := Tryd.isAgg4
  z4 := Tryd.sizeOf4
  v4 := Tryd.zeroValue4
  t5 := Tryd.underlying5
  a5 := Tryd.isAgg5
  z5 := Tryd.sizeOf5
  v5 := Tryd.zeroValue5
  t9 := Tryd.underlying9
  a9 := Tryd.isAgg9
  z9 := Tryd.sizeOf9
  v9 := Tryd.zeroValue9
  t21 := Tryd.underlying21
  a21 := Tryd.isAgg21
  z21 := Tryd.sizeOf21
  v21 := Tryd.zeroValue21
  t31 := Tryd.underlying40
  a31 := Tryd.isAgg40
  z31 := Tryd.sizeOf40
  v31 := Tryd.zeroValue40
  t46 := Tryd.underlying74
  a46 := Tryd.isAgg74
  z46 := Tryd.sizeOf74
  v46 := Tryd.zeroValue74
  t51 := Tryd.underlying83
  a51 := Tryd.isAgg83
  z51 := Tryd.sizeOf83
  v51 := Tryd.zeroValue83
  t105 := Tryd.underlying94
  a105 := Tryd.isAgg94
  z105 := Tryd.sizeOf94
  v105 := Tryd.zeroValue94
  t119 := Tryd.underlying97
  a119 := Tryd.isAgg97
  z119 := Tryd.sizeOf97
  t138 := Tryd.underlying99
  a138 := Tryd.isAgg99
  z138 := Tryd.sizeOf99
  v138 := Tryd.zeroValue99
  t139 := Tryd.underlying100
  a139 := Tryd.isAgg100
  z139 := Tryd.sizeOf100
  v139 := Tryd.zeroValue100
  t146 := Tryd.underlying84
  a146 := Tryd.isAgg84
  z146 := Tryd.sizeOf84
  v146 := Tryd.zeroValue84
  g1 := by kernel_rfl
  g3 := by kernel_rfl
  g4 := by kernel_rfl }
def linesB (s : ByteArray) : List ByteArray := Go.Lib.splitB ⟨#[10]⟩ 0 (Go.Lib.countB s ⟨#[10]⟩) s
theorem lines_info : (Tryd.prog.info? 9).map (fun i => (i.zero, i.size, i.bytes)) = some (some (.string ByteArray.empty), 1, 16) := by kernel_rfl
theorem lines_len (s : ByteArray) : (linesB s).length = Go.Lib.countB s ⟨#[10]⟩ + 1 := Go.Lib.splitB_all ⟨#[10]⟩ (by decide) 0 _ s rfl
theorem lines_index (x : ByteArray) (w : World) : Calls Tryd.prog 56 #[.string x, .string ⟨#[10]⟩] w fun e w' => e = .returned (.int .i64 (Go.Lib.indexB x ⟨#[10]⟩)) ∧ w' = w := by
  refine (Go.Proofs.Any.strings_Index_one (ρ := splitRen) { splitLays with } x 10 w).mono fun e w' ⟨he, hw⟩ => ⟨?_, hw⟩
  rw [he]
  show _ = Ending.returned (Value.int .i64 (Go.Lib.index x.data.toList [10]))
  rw [Go.Lib.index_one]
theorem lines_count (s : ByteArray) (w : World) : Calls Tryd.prog 55 #[.string s, .string ⟨#[10]⟩] w fun e w' => e = .returned (.int .i64 (Go.Lib.countB s ⟨#[10]⟩)) ∧ w' = w := by
  refine (Go.Proofs.Any.strings_Count_one (ρ := splitRen) { splitLays with } s 10 w).mono fun e w' ⟨he, hw⟩ => ⟨?_, hw⟩
  rw [he]
  show _ = Ending.returned (Value.int .i64 ((Go.Lib.count s.data.toList [10] : Nat) : Int))
  rw [Go.Lib.count_one]
  rfl
def strings_Split.f (a0 : ByteArray) (a1 : ByteArray) : Option (List ByteArray) := if a0.size < 4294967281 then (if a1 = ⟨#[10]⟩ then some (linesB a0) else none) else none
set_option maxHeartbeats 1600000 in
set_option maxRecDepth 100000 in
theorem strings_Split.calls (a0 : ByteArray) (a1 : ByteArray) (r : List ByteArray) (w : World) (h : strings_Split.f a0 a1 = some r) :
    Calls Tryd.prog 33 #[.string a0, .string a1] w fun e w' => ∃ v, e = .returned v ∧ Kd.R Kd.string 9 w' w.heap.size (fun _ => True) v r ∧ Below w.heap.size w w' := by
  unfold strings_Split.f at h
  by_cases hs : a0.size < 4294967281
  case neg => rw [if_neg hs] at h; cases h
  rw [if_pos hs] at h
  by_cases h1 : a1 = ⟨#[10]⟩
  case neg => rw [if_neg h1] at h; cases h
  rw [if_pos h1] at h
  subst h1
  obtain rfl := Option.some.inj h
  have hle := Go.Lib.countB_le ⟨#[10]⟩ (by decide) a0.size a0 (Nat.le_refl _)
  have hlen := lines_len a0
  have c := Go.Proofs.Any.strings_genSplit_core (ρ := splitRen) { splitLays with } lines_info a0 ⟨#[10]⟩ 0 (-1) (Go.Lib.countB a0 ⟨#[10]⟩ + 1) w hs (by decide) (Nat.zero_le _) (fun x c _ => lines_index x _) (lines_count a0 w) (by decide) (by decide) (by rw [if_pos (by decide)]; omega)
  have e0 : Go.Lib.splitB ⟨#[10]⟩ 0 (Go.Lib.countB a0 ⟨#[10]⟩ + 1 - 1) a0 = linesB a0 := rfl
  rw [e0] at c
  have e2 : Go.Lib.cellsOf (linesB a0) (Go.Lib.countB a0 ⟨#[10]⟩ + 1) = ((linesB a0).map Value.string).toArray := by rw [← hlen]; exact Go.Lib.cellsOf_full _
  rw [e2, ← hlen] at c
  have hfin : Kd.R Kd.string 9 (w.alloc (.cells ((linesB a0).map Value.string).toArray 9)) w.heap.size (fun _ => True) (.slice (some ⟨w.heap.size, 0, none⟩) (linesB a0).length (linesB a0).length) (linesB a0) := by
    refine Kd.R_of_own ?_ (fun _ _ => trivial)
    have := World.ownsRow_lit (base := w.heap.size) (e := 9) (size := 1) w ((linesB a0).map Value.string).toArray (linesB a0).length (Nat.le_refl _) (by unfold maxLen; omega) (by simp)
    simpa [encs] using this
  have HF := Aside0.mk hfin
  have HC := Aside0.mk c
  clear hfin c e0 e2 hlen hle
  go_enter Tryd.func33, Tryd.ntmps33
  go_wp2_with (go_at_call 46; refine HC.out.mono ?_; rintro e w' ⟨rfl, hw⟩; subst hw)
  go_ret
  exact ⟨_, rfl, HF.out, below_alloc (Below.refl _ _) _⟩

/-! ### strings_IndexByte: function 47 -/
def idxbRen : Go.Shelf.Ren := ⟨fun | 137 => 47 | 217 => 57 | 266 => 64 | n => n, fun | 9 => 9 | 5 => 5 | 3 => 3 | n => n, fun | n => n⟩
theorem idxbLays : Go.Proofs.Lays.n137 Tryd.prog idxbRen := {
  mixed := by kernel_rfl
  f137 := Tryd.func47.trans (congrArg some (by kernel_rfl))
  f217 := Tryd.func57.trans (congrArg some (by kernel_rfl))
  f266 := Tryd.func64.trans (congrArg some (by kernel_rfl))
  t3 := Tryd.underlying3
  a3 := Tryd.isAgg3
  z3 := Tryd.sizeOf3
  v3 := Tryd.zeroValue3
  t5 := Tryd.underlying5
  a5 := Tryd.isAgg5
  z5 := Tryd.sizeOf5
  v5 := Tryd.zeroValue5
  t9 := Tryd.underlying9
  a9 := Tryd.isAgg9
  z9 := Tryd.sizeOf9
  v9 := Tryd.zeroValue9 }
def strings_IndexByte.f (a0 : ByteArray) (a1 : Int) : Option Int := some (Go.Lib.indexByte a0.data.toList a1.toNat.toUInt8)
theorem strings_IndexByte.calls (a0 : ByteArray) (a1 : Int) (r : Int) (w : World) (h : strings_IndexByte.f a0 a1 = some r) :
    Calls Tryd.prog 47 #[.string a0, .int .u8 a1] w fun e w' => e = .returned (.int .i64 r) ∧ Drawn0 w w' := by
  unfold strings_IndexByte.f at h
  obtain rfl := Option.some.inj h
  refine (Go.Proofs.Any.strings_IndexByte idxbLays a0 a1 w).mono ?_
  rintro e w' ⟨rfl, rfl⟩
  exact ⟨rfl, Drawn0.refl _⟩

/-! ### codepoint_Parse: function 48 -/
mutual
def codepoint_Parse.l0 : Nat → ByteArray → Int → Int → Int → Option (Int × Int)
  | 0, _, _, _, _ => none
  | k + 1, x0, x4, x11, x12 => if x12 < x11 then (if 0 ≤ x12 then (if x12 < (x0.size : Int) then (if (bt x0 x12) ≥ 48 then (codepoint_Parse.j1 k x0 x4 (bt x0 x12) x11 x12 (decide ((bt x0 x12) ≤ 57))) else (codepoint_Parse.j1 k x0 x4 (bt x0 x12) x11 x12 false)) else (none)) else (none)) else (if x0.toList = ([] : List UInt8) then (some (0, 3)) else ((codepoint_Hex.f x4).bind fun t119 => (if t119.toList = x0.toList then (some (x4, 0)) else (some (0, 3)))))
def codepoint_Parse.j1 : Nat → ByteArray → Int → Int → Int → Int → Bool → Option (Int × Int)
  | 0, _, _, _, _, _, _ => none
  | k + 1, x0, x4, x6, x11, x12, x18 => if x18 = true then (codepoint_Parse.l0 k x0 (wrap64 ((wrap64 (x4 * 16)) + ((x6 - 48) % 256))) x11 (wrap64 (x12 + 1))) else (if x6 ≥ 65 then (if x6 ≤ 70 then (codepoint_Parse.l0 k x0 (wrap64 ((wrap64 ((wrap64 (x4 * 16)) + ((x6 - 65) % 256))) + 10)) x11 (wrap64 (x12 + 1))) else (some (0, 3))) else (some (0, 3)))
end
def codepoint_Parse.f (k : Nat) (a0 : ByteArray) : Option (Int × Int) := if (a0.size : Int) > 6 then (some (0, 3)) else (codepoint_Parse.l0 k a0 0 (a0.size : Int) 0)
theorem codepoint_Parse.mono_l : ∀ k, (∀ y0 y1 y2 y3, LeO (codepoint_Parse.l0 k y0 y1 y2 y3) (codepoint_Parse.l0 (k + 1) y0 y1 y2 y3)) ∧ (∀ y0 y1 y2 y3 y4 y5, LeO (codepoint_Parse.j1 k y0 y1 y2 y3 y4 y5) (codepoint_Parse.j1 (k + 1) y0 y1 y2 y3 y4 y5))
  | 0 => ⟨fun _ _ _ _ r h => by simp [codepoint_Parse.l0] at h, fun _ _ _ _ _ _ r h => by simp [codepoint_Parse.j1] at h⟩
  | k + 1 => by
    obtain ⟨ih0, ih1⟩ := codepoint_Parse.mono_l k
    refine ⟨?_, ?_⟩
    · intro y0 y1 y2 y3
      unfold codepoint_Parse.l0
      repeat' first
      | (with_reducible exact ih0 _ _ _ _)
      | (with_reducible exact ih1 _ _ _ _ _ _)
      | (with_reducible exact LeO.refl _)
      | (with_reducible exact LeO.none _)
      | (with_reducible refine LeO.ite ?_ ?_)
      | (with_reducible refine LeO.bind ?_ (fun _ => ?_))
      | exact ih0 _ _ _ _
      | exact ih1 _ _ _ _ _ _
      | exact LeO.none _
      | refine LeO.ite ?_ ?_
      | refine LeO.bind ?_ (fun _ => ?_)
    · intro y0 y1 y2 y3 y4 y5
      unfold codepoint_Parse.j1
      repeat' first
      | (with_reducible exact ih0 _ _ _ _)
      | (with_reducible exact ih1 _ _ _ _ _ _)
      | (with_reducible exact LeO.refl _)
      | (with_reducible exact LeO.none _)
      | (with_reducible refine LeO.ite ?_ ?_)
      | (with_reducible refine LeO.bind ?_ (fun _ => ?_))
      | exact ih0 _ _ _ _
      | exact ih1 _ _ _ _ _ _
      | exact LeO.none _
      | refine LeO.ite ?_ ?_
      | refine LeO.bind ?_ (fun _ => ?_)
theorem codepoint_Parse.mono : ∀ a0 k, LeO (codepoint_Parse.f k a0) (codepoint_Parse.f (k + 1) a0) := by
  intro a0 k
  obtain ⟨ih0, ih1⟩ := codepoint_Parse.mono_l k
  unfold codepoint_Parse.f
  repeat' first
      | (with_reducible exact ih0 _ _ _ _)
      | (with_reducible exact ih1 _ _ _ _ _ _)
      | (with_reducible exact LeO.refl _)
      | (with_reducible exact LeO.none _)
      | (with_reducible refine LeO.ite ?_ ?_)
      | (with_reducible refine LeO.bind ?_ (fun _ => ?_))
      | exact ih0 _ _ _ _
      | exact ih1 _ _ _ _ _ _
      | exact LeO.none _
      | refine LeO.ite ?_ ?_
      | refine LeO.bind ?_ (fun _ => ?_)
set_option maxHeartbeats 8000000 in
set_option maxRecDepth 100000 in
theorem codepoint_Parse.calls (k : Nat) (a0 : ByteArray) (r1 : Int) (r2 : Int) (w : World) (h : codepoint_Parse.f k a0 = some (r1, r2)) :
    Calls Tryd.prog 48 #[.string a0] w fun e w' => e = .returned (.tuple #[.int .i64 r1, .int .i64 r2]) ∧ Below w.heap.size w w' := by
  have HB := Aside0.mk (Below.refl w.heap.size w)
  have H : (if (a0.size : Int) > 6 then (some (0, 3)) else (codepoint_Parse.l0 k a0 0 (a0.size : Int) 0)) = some (r1, r2) := h
  clear h
  by_cases c2 : (a0.size : Int) > 6
  · rw [if_pos c2] at H
    have c2b0 : decide (6 < (a0.size : Int)) = true := decide_eq_true c2
    have c2b1 : decide (6 < a0.size) = true := decide_eq_true (by omega)
    clear c2
    simp only [Option.some.injEq, Prod.mk.injEq] at H
    obtain ⟨rfl, rfl⟩ := H
    go_enter Tryd.func48, Tryd.ntmps48
    go_wp2
    go_ret2
    exact ⟨by first | rfl | (simp [errW_none, errW_some] <;> rfl) | (simp [*, errW_none, errW_some] <;> rfl), by repeat (first | (with_reducible first | exact HB.out | apply below_alloc | apply pw_below_drewN | apply below_drew1) | exact HB.out)⟩
  · rw [if_neg c2] at H
    have c2b0 : decide (6 < (a0.size : Int)) = false := decide_eq_false c2
    have c2b1 : decide (6 < a0.size) = false := decide_eq_false (by omega)
    clear c2
    have H' := Aside0.mk H
    clear H
    go_enter Tryd.func48, Tryd.ntmps48
    go_wp2
    go_loopg [4, 12] k (fun kq v4 v12 w' => ∃ (x4_1 : Int) (x12_1 : Int), v4 = .int .i64 x4_1 ∧ v12 = .int .i64 x12_1 ∧ Aside0 (codepoint_Parse.l0 kq a0 x4_1 (a0.size : Int) x12_1 = some (r1, r2)) ∧ Aside0 (kq ≤ k) ∧ Aside0 (Below w.heap.size w w'))
    case atStart => exact ⟨(0), (0), (by first | rfl | (simp; done) | (simp [*]; done)), (by first | rfl | (simp; done) | (simp [*]; done)), H', ⟨Nat.le_refl _⟩, ⟨by repeat (first | (with_reducible first | exact HB.out | apply below_alloc | apply pw_below_drewN | apply below_drew1) | exact HB.out)⟩⟩
    case round =>
      clear H'
      try clear c2
      try clear c2b0
      try clear c2b1
      try clear p2
      obtain ⟨x4_1, x12_1, rfl, rfl, HA, HK1, HB⟩ := hrel
      cases gk with
      | zero => exact absurd HA.out (by simp [codepoint_Parse.l0])
      | succ k1 =>
        have H := HA.out
        clear HA
        simp only [codepoint_Parse.l0] at H
        by_cases c3 : x12_1 < (a0.size : Int)
        · rw [if_pos c3] at H
          have c3b0 : decide (x12_1 < (a0.size : Int)) = true := decide_eq_true c3
          clear c3
          by_cases c4 : 0 ≤ x12_1
          · rw [if_pos c4] at H
            have c4b0 : decide (0 ≤ x12_1) = true := decide_eq_true c4
            clear c4
            by_cases c5 : x12_1 < (a0.size : Int)
            · rw [if_pos c5] at H
              have c5b0 : decide (x12_1 < (a0.size : Int)) = true := decide_eq_true c5
              clear c5
              have HC7 := Aside0.mk H
              clear H
              have p6 : 0 ≤ (x12_1 : Int) := of_decide_eq_true (by first | (with_reducible assumption) | assumption)
              have q6 : x12_1 < (a0.size : Int) := of_decide_eq_true (by first | (with_reducible assumption) | assumption)
              have hx6 := bt_at a0 x12_1
              replace p6 := eq_true p6
              replace q6 := eq_true q6
              go_upto_region 9 with (fail)
              go_cut [18] (fun v18 wc => ∃ (kq : Nat) (x18_6 : Bool), v18 = .bool x18_6 ∧ Aside0 (codepoint_Parse.j1 kq a0 x4_1 (bt a0 x12_1) (a0.size : Int) x12_1 x18_6 = some (r1, r2)) ∧ Aside0 (kq ≤ k1) ∧ Aside0 (Below w.heap.size w wc))
              case first =>
                have H := HC7.out
                clear HC7
                by_cases c8 : (bt a0 x12_1) ≥ 48
                · rw [if_pos c8] at H
                  have c8b0 : decide (48 ≤ (bt a0 x12_1)) = true := decide_eq_true c8
                  clear c8
                  (first | rw [c8b0] | (simp only [i64_w, i32_w]; rw [c8b0]) | skip)
                  have H' := Aside0.mk H
                  clear H
                  go_wp2
                  go_meet
                  case rel => exact ⟨_, (decide ((bt a0 x12_1) ≤ 57)), (by first | rfl | (simp; done) | (simp [*]; done)), H', ⟨by have := HK1.out; first | omega | exact Nat.le_refl _⟩, ⟨by repeat (first | (with_reducible first | exact HB.out | apply below_alloc | apply pw_below_drewN | apply below_drew1) | exact HB.out)⟩⟩
                · rw [if_neg c8] at H
                  have c8b0 : decide (48 ≤ (bt a0 x12_1)) = false := decide_eq_false c8
                  clear c8
                  (first | rw [c8b0] | (simp only [i64_w, i32_w]; rw [c8b0]) | skip)
                  have H' := Aside0.mk H
                  clear H
                  go_wp2
                  go_meet
                  case rel => exact ⟨_, (false), (by first | rfl | (simp; done) | (simp [*]; done)), H', ⟨by have := HK1.out; first | omega | exact Nat.le_refl _⟩, ⟨by repeat (first | (with_reducible first | exact HB.out | apply below_alloc | apply pw_below_drewN | apply below_drew1) | exact HB.out)⟩⟩
              case rest =>
                clear HC7
                try clear c2
                try clear c2b0
                try clear c2b1
                try clear p2
                try clear c3
                try clear c3b0
                try clear c4
                try clear c4b0
                try clear c5
                try clear c5b0
                try clear p6
                try clear q6
                try clear hx6
                try clear c8
                try clear c8b0
                try clear p2
                try clear p6
                try clear q6
                obtain ⟨kq, x18_6, rfl, HA, HJ6, HB⟩ := hcut
                cases kq with
                | zero => exact absurd HA.out (by simp [codepoint_Parse.j1])
                | succ kj6 =>
                  have H := HA.out
                  clear HA
                  simp only [codepoint_Parse.j1] at H
                  by_cases c9 : x18_6 = true
                  · subst c9
                    have H1 : (codepoint_Parse.l0 kj6 a0 (wrap64 ((wrap64 (x4_1 * 16)) + (((bt a0 x12_1) - 48) % 256))) (a0.size : Int) (wrap64 (x12_1 + 1))) = some (r1, r2) := by rw [if_pos rfl] at H; exact H
                    clear H
                    have H := H1
                    clear H1
                    have H' := Aside0.mk H
                    clear H
                    go_wp2
                    go_roundg kj6
                    case measure => have := HK1.out; have := HJ6.out; omega
                    case rel => exact ⟨(wrap64 ((wrap64 (x4_1 * 16)) + (((bt a0 x12_1) - 48) % 256))), (wrap64 (x12_1 + 1)), (by first | rfl | (simp; done) | (simp [*]; done)), (by first | rfl | (simp; done) | (simp [*]; done)), H', ⟨by have := HK1.out; have := HJ6.out; omega⟩, ⟨by repeat (first | (with_reducible first | exact HB.out | apply below_alloc | apply pw_below_drewN | apply below_drew1) | exact HB.out)⟩⟩
                  · replace c9 := Bool.eq_false_iff.mpr c9
                    subst c9
                    have H1 : (if (bt a0 x12_1) ≥ 65 then (if (bt a0 x12_1) ≤ 70 then (codepoint_Parse.l0 kj6 a0 (wrap64 ((wrap64 ((wrap64 (x4_1 * 16)) + (((bt a0 x12_1) - 65) % 256))) + 10)) (a0.size : Int) (wrap64 (x12_1 + 1))) else (some (0, 3))) else (some (0, 3))) = some (r1, r2) := by rw [if_neg (show ¬ (false = true) by decide)] at H; exact H
                    clear H
                    have H := H1
                    clear H1
                    by_cases c10 : (bt a0 x12_1) ≥ 65
                    · rw [if_pos c10] at H
                      have c10b0 : decide (65 ≤ (bt a0 x12_1)) = true := decide_eq_true c10
                      clear c10
                      by_cases c11 : (bt a0 x12_1) ≤ 70
                      · rw [if_pos c11] at H
                        have c11b0 : decide ((bt a0 x12_1) ≤ 70) = true := decide_eq_true c11
                        clear c11
                        have H' := Aside0.mk H
                        clear H
                        go_wp2
                        go_roundg kj6
                        case measure => have := HK1.out; have := HJ6.out; omega
                        case rel => exact ⟨(wrap64 ((wrap64 ((wrap64 (x4_1 * 16)) + (((bt a0 x12_1) - 65) % 256))) + 10)), (wrap64 (x12_1 + 1)), (by first | rfl | (simp; done) | (simp [*]; done)), (by first | rfl | (simp; done) | (simp [*]; done)), H', ⟨by have := HK1.out; have := HJ6.out; omega⟩, ⟨by repeat (first | (with_reducible first | exact HB.out | apply below_alloc | apply pw_below_drewN | apply below_drew1) | exact HB.out)⟩⟩
                      · rw [if_neg c11] at H
                        have c11b0 : decide ((bt a0 x12_1) ≤ 70) = false := decide_eq_false c11
                        clear c11
                        simp only [Option.some.injEq, Prod.mk.injEq] at H
                        obtain ⟨rfl, rfl⟩ := H
                        go_wp2
                        go_ret2
                        exact ⟨by first | rfl | (simp [errW_none, errW_some] <;> rfl) | (simp [*, errW_none, errW_some] <;> rfl), by repeat (first | (with_reducible first | exact HB.out | apply below_alloc | apply pw_below_drewN | apply below_drew1) | exact HB.out)⟩
                    · rw [if_neg c10] at H
                      have c10b0 : decide (65 ≤ (bt a0 x12_1)) = false := decide_eq_false c10
                      clear c10
                      simp only [Option.some.injEq, Prod.mk.injEq] at H
                      obtain ⟨rfl, rfl⟩ := H
                      go_wp2
                      go_ret2
                      exact ⟨by first | rfl | (simp [errW_none, errW_some] <;> rfl) | (simp [*, errW_none, errW_some] <;> rfl), by repeat (first | (with_reducible first | exact HB.out | apply below_alloc | apply pw_below_drewN | apply below_drew1) | exact HB.out)⟩
            · rw [if_neg c5] at H
              exact absurd H (by simp)
          · rw [if_neg c4] at H
            exact absurd H (by simp)
        · rw [if_neg c3] at H
          have c3b0 : decide (x12_1 < (a0.size : Int)) = false := decide_eq_false c3
          clear c3
          by_cases c12 : a0.toList = ([] : List UInt8)
          · rw [if_pos c12] at H
            have c12b0 : (a0.toList == ([] : List UInt8)) = true := beq_iff_eq.mpr c12
            have c12b1 : (a0.toList != ([] : List UInt8)) = false := bne_eq_false_iff_eq.mpr c12
            clear c12
            simp only [Option.some.injEq, Prod.mk.injEq] at H
            obtain ⟨rfl, rfl⟩ := H
            go_wp2
            go_ret2
            exact ⟨by first | rfl | (simp [errW_none, errW_some] <;> rfl) | (simp [*, errW_none, errW_some] <;> rfl), by repeat (first | (with_reducible first | exact HB.out | apply below_alloc | apply pw_below_drewN | apply below_drew1) | exact HB.out)⟩
          · rw [if_neg c12] at H
            have c12b0 : (a0.toList == ([] : List UInt8)) = false := beq_eq_false_iff_ne.mpr c12
            have c12b1 : (a0.toList != ([] : List UInt8)) = true := bne_iff_ne.mpr c12
            replace H := Option.bind_eq_some_iff.mp H
            obtain ⟨t119, A130, H⟩ := H
            replace H : (if t119.toList = a0.toList then (some (x4_1, 0)) else (some (0, 3))) = some (r1, r2) := H
            have A13 := Aside0.mk A130
            clear A130
            by_cases c14 : t119.toList = a0.toList
            · rw [if_pos c14] at H
              have c14b0 : (t119.toList == a0.toList) = true := beq_iff_eq.mpr c14
              have c14b1 : (t119.toList != a0.toList) = false := bne_eq_false_iff_eq.mpr c14
              clear c14
              simp only [Option.some.injEq, Prod.mk.injEq] at H
              obtain ⟨rfl, rfl⟩ := H
              go_wp2_with (first | (go_at_call 26; (with_reducible refine (codepoint_Hex.calls x4_1 t119 _ A13.out).mono ?_); rintro e w15 ⟨rfl, hb⟩; have n0_ := Aside0.mk (below_step (by repeat (first | (with_reducible first | exact HB.out | apply below_alloc | apply pw_below_drewN | apply below_drew1) | exact HB.out)) hb); clear HB; have HB := n0_; clear n0_; (try clear hb); (try clear hb2); (try clear hk); (try clear hi)))
              go_ret2
              exact ⟨by first | rfl | (simp [errW_none, errW_some] <;> rfl) | (simp [*, errW_none, errW_some] <;> rfl), by repeat (first | (with_reducible first | exact HB.out | apply below_alloc | apply pw_below_drewN | apply below_drew1) | exact HB.out)⟩
            · rw [if_neg c14] at H
              have c14b0 : (t119.toList == a0.toList) = false := beq_eq_false_iff_ne.mpr c14
              have c14b1 : (t119.toList != a0.toList) = true := bne_iff_ne.mpr c14
              simp only [Option.some.injEq, Prod.mk.injEq] at H
              obtain ⟨rfl, rfl⟩ := H
              go_wp2_with (first | (go_at_call 26; (with_reducible refine (codepoint_Hex.calls x4_1 t119 _ A13.out).mono ?_); rintro e w16 ⟨rfl, hb⟩; have n0_ := Aside0.mk (below_step (by repeat (first | (with_reducible first | exact HB.out | apply below_alloc | apply pw_below_drewN | apply below_drew1) | exact HB.out)) hb); clear HB; have HB := n0_; clear n0_; (try clear hb); (try clear hb2); (try clear hk); (try clear hi)))
              go_ret2
              exact ⟨by first | rfl | (simp [errW_none, errW_some] <;> rfl) | (simp [*, errW_none, errW_some] <;> rfl), by repeat (first | (with_reducible first | exact HB.out | apply below_alloc | apply pw_below_drewN | apply below_drew1) | exact HB.out)⟩

end Go.Proofs.YtlgoagkgmndchaaDoor.PA

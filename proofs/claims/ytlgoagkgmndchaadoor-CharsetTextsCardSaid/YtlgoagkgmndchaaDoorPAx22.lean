-- Laid by hprint.py (this session's program, over the kit's print) for the seat YtlgoagkgmndchaaDoor. Lean checks it.
import Derived.Test.YtlgoagkgmndchaaDoorPAx0
import Derived.Test.YtlgoagkgmndchaaDoorPAx2
import Derived.Test.YtlgoagkgmndchaaDoorPAx3
import Derived.Test.YtlgoagkgmndchaaDoorPAx4
import Derived.Test.YtlgoagkgmndchaaDoorPAx5
import Derived.Test.YtlgoagkgmndchaaDoorPAx6
import Derived.Test.YtlgoagkgmndchaaDoorPAx9
import Derived.Test.YtlgoagkgmndchaaDoorPAx14
namespace Go.Proofs.YtlgoagkgmndchaaDoor.PA
open Go.RowKit Go.Proofs.YtlgoagkgmndchaaDoorW.PrintWords Go.Proofs.YtlgoagkgmndchaaDoorW.PrintLast Go.Proofs.YtlgoagkgmndchaaDoorW.PrintMore
attribute [local go_sem] max2_int min2_int max_two min_two max_three min_three max_four min_four   -- for this text's walks alone
set_option linter.unusedVariables false
set_option linter.unusedSimpArgs false

/-! ### charset_hex: function 38 -/
def charset_hex.f (a0 : Int) : Option (ByteArray) := if 0 ≤ (a0 / 16) then (if (a0 / 16) ≤ (((a0 / 16) + 1) % 256) then (if (((a0 / 16) + 1) % 256) ≤ 16 then (if 0 ≤ (Go.bits .and .u8 a0 15) then (if (Go.bits .and .u8 a0 15) ≤ (((Go.bits .and .u8 a0 15) + 1) % 256) then (if (((Go.bits .and .u8 a0 15) + 1) % 256) ≤ 16 then (if ((⟨#[48, 49, 50, 51, 52, 53, 54, 55, 56, 57, 65, 66, 67, 68, 69, 70]⟩ : ByteArray).extract ((a0 / 16) : Int).toNat ((((a0 / 16) + 1) % 256) : Int).toNat).size + ((⟨#[48, 49, 50, 51, 52, 53, 54, 55, 56, 57, 65, 66, 67, 68, 69, 70]⟩ : ByteArray).extract ((Go.bits .and .u8 a0 15) : Int).toNat ((((Go.bits .and .u8 a0 15) + 1) % 256) : Int).toNat).size ≤ 9223372036854775807 then (some (((⟨#[48, 49, 50, 51, 52, 53, 54, 55, 56, 57, 65, 66, 67, 68, 69, 70]⟩ : ByteArray).extract ((a0 / 16) : Int).toNat ((((a0 / 16) + 1) % 256) : Int).toNat) ++ ((⟨#[48, 49, 50, 51, 52, 53, 54, 55, 56, 57, 65, 66, 67, 68, 69, 70]⟩ : ByteArray).extract ((Go.bits .and .u8 a0 15) : Int).toNat ((((Go.bits .and .u8 a0 15) + 1) % 256) : Int).toNat))) else (none)) else (none)) else (none)) else (none)) else (none)) else (none)) else (none)
set_option maxHeartbeats 8000000 in
set_option maxRecDepth 100000 in
theorem charset_hex.calls (a0 : Int) (r : ByteArray) (w : World) (h : charset_hex.f a0 = some r) :
    Calls Tryd.prog 38 #[.int .u8 a0] w fun e w' => e = .returned (.string r) ∧ Drawn0 w w' := by
  have H : (if 0 ≤ (a0 / 16) then (if (a0 / 16) ≤ (((a0 / 16) + 1) % 256) then (if (((a0 / 16) + 1) % 256) ≤ 16 then (if 0 ≤ (Go.bits .and .u8 a0 15) then (if (Go.bits .and .u8 a0 15) ≤ (((Go.bits .and .u8 a0 15) + 1) % 256) then (if (((Go.bits .and .u8 a0 15) + 1) % 256) ≤ 16 then (if ((⟨#[48, 49, 50, 51, 52, 53, 54, 55, 56, 57, 65, 66, 67, 68, 69, 70]⟩ : ByteArray).extract ((a0 / 16) : Int).toNat ((((a0 / 16) + 1) % 256) : Int).toNat).size + ((⟨#[48, 49, 50, 51, 52, 53, 54, 55, 56, 57, 65, 66, 67, 68, 69, 70]⟩ : ByteArray).extract ((Go.bits .and .u8 a0 15) : Int).toNat ((((Go.bits .and .u8 a0 15) + 1) % 256) : Int).toNat).size ≤ 9223372036854775807 then (some (((⟨#[48, 49, 50, 51, 52, 53, 54, 55, 56, 57, 65, 66, 67, 68, 69, 70]⟩ : ByteArray).extract ((a0 / 16) : Int).toNat ((((a0 / 16) + 1) % 256) : Int).toNat) ++ ((⟨#[48, 49, 50, 51, 52, 53, 54, 55, 56, 57, 65, 66, 67, 68, 69, 70]⟩ : ByteArray).extract ((Go.bits .and .u8 a0 15) : Int).toNat ((((Go.bits .and .u8 a0 15) + 1) % 256) : Int).toNat))) else (none)) else (none)) else (none)) else (none)) else (none)) else (none)) else (none)) = some r := h
  clear h
  obtain ⟨ji2, hji2⟩ : ∃ j_ : Int, (a0 / 16) = j_ := ⟨_, rfl⟩
  replace H : (if 0 ≤ (ji2) then (if (ji2) ≤ (((ji2) + 1) % 256) then (if (((ji2) + 1) % 256) ≤ 16 then (if 0 ≤ (Go.bits .and .u8 a0 15) then (if (Go.bits .and .u8 a0 15) ≤ (((Go.bits .and .u8 a0 15) + 1) % 256) then (if (((Go.bits .and .u8 a0 15) + 1) % 256) ≤ 16 then (if ((⟨#[48, 49, 50, 51, 52, 53, 54, 55, 56, 57, 65, 66, 67, 68, 69, 70]⟩ : ByteArray).extract ((ji2) : Int).toNat ((((ji2) + 1) % 256) : Int).toNat).size + ((⟨#[48, 49, 50, 51, 52, 53, 54, 55, 56, 57, 65, 66, 67, 68, 69, 70]⟩ : ByteArray).extract ((Go.bits .and .u8 a0 15) : Int).toNat ((((Go.bits .and .u8 a0 15) + 1) % 256) : Int).toNat).size ≤ 9223372036854775807 then (some (((⟨#[48, 49, 50, 51, 52, 53, 54, 55, 56, 57, 65, 66, 67, 68, 69, 70]⟩ : ByteArray).extract ((ji2) : Int).toNat ((((ji2) + 1) % 256) : Int).toNat) ++ ((⟨#[48, 49, 50, 51, 52, 53, 54, 55, 56, 57, 65, 66, 67, 68, 69, 70]⟩ : ByteArray).extract ((Go.bits .and .u8 a0 15) : Int).toNat ((((Go.bits .and .u8 a0 15) + 1) % 256) : Int).toNat))) else (none)) else (none)) else (none)) else (none)) else (none)) else (none)) else (none)) = some r := by first | (rw [hji2] at H; exact H) | (simp only [hji2] at H ⊢; exact H)
  by_cases c3 : 0 ≤ (ji2)
  · rw [if_pos c3] at H
    have c3b0 := eq_true c3
    have c3b1 : decide (0 ≤ (ji2)) = true := decide_eq_true c3
    clear c3
    by_cases c4 : (ji2) ≤ (((ji2) + 1) % 256)
    · rw [if_pos c4] at H
      have c4b0 := eq_true c4
      have c4b1 : decide ((ji2) ≤ (((ji2) + 1) % 256)) = true := decide_eq_true c4
      by_cases c5 : (((ji2) + 1) % 256) ≤ 16
      · rw [if_pos c5] at H
        have c5b0 := eq_true c5
        have c5b1 : decide ((((ji2) + 1) % 256) ≤ 16) = true := decide_eq_true c5
        by_cases c6 : 0 ≤ (Go.bits .and .u8 a0 15)
        · rw [if_pos c6] at H
          have c6b0 := eq_true c6
          have c6b1 : decide (0 ≤ (Go.bits .and .u8 a0 15)) = true := decide_eq_true c6
          clear c6
          by_cases c7 : (Go.bits .and .u8 a0 15) ≤ (((Go.bits .and .u8 a0 15) + 1) % 256)
          · rw [if_pos c7] at H
            have c7b0 := eq_true c7
            have c7b1 : decide ((Go.bits .and .u8 a0 15) ≤ (((Go.bits .and .u8 a0 15) + 1) % 256)) = true := decide_eq_true c7
            by_cases c8 : (((Go.bits .and .u8 a0 15) + 1) % 256) ≤ 16
            · rw [if_pos c8] at H
              have c8b0 := eq_true c8
              have c8b1 : decide ((((Go.bits .and .u8 a0 15) + 1) % 256) ≤ 16) = true := decide_eq_true c8
              by_cases c9 : ((⟨#[48, 49, 50, 51, 52, 53, 54, 55, 56, 57, 65, 66, 67, 68, 69, 70]⟩ : ByteArray).extract ((ji2) : Int).toNat ((((ji2) + 1) % 256) : Int).toNat).size + ((⟨#[48, 49, 50, 51, 52, 53, 54, 55, 56, 57, 65, 66, 67, 68, 69, 70]⟩ : ByteArray).extract ((Go.bits .and .u8 a0 15) : Int).toNat ((((Go.bits .and .u8 a0 15) + 1) % 256) : Int).toNat).size ≤ 9223372036854775807
              · rw [if_pos c9] at H
                have c9b0 := eq_true c9
                have c9b1 : decide (((⟨#[48, 49, 50, 51, 52, 53, 54, 55, 56, 57, 65, 66, 67, 68, 69, 70]⟩ : ByteArray).extract ((ji2) : Int).toNat ((((ji2) + 1) % 256) : Int).toNat).size + ((⟨#[48, 49, 50, 51, 52, 53, 54, 55, 56, 57, 65, 66, 67, 68, 69, 70]⟩ : ByteArray).extract ((Go.bits .and .u8 a0 15) : Int).toNat ((((Go.bits .and .u8 a0 15) + 1) % 256) : Int).toNat).size ≤ 9223372036854775807) = true := decide_eq_true c9
                try have c9b2 : (9223372036854775807 < ((⟨#[48, 49, 50, 51, 52, 53, 54, 55, 56, 57, 65, 66, 67, 68, 69, 70]⟩ : ByteArray).extract ((ji2) : Int).toNat ((((ji2) + 1) % 256) : Int).toNat).size + ((⟨#[48, 49, 50, 51, 52, 53, 54, 55, 56, 57, 65, 66, 67, 68, 69, 70]⟩ : ByteArray).extract ((Go.bits .and .u8 a0 15) : Int).toNat ((((Go.bits .and .u8 a0 15) + 1) % 256) : Int).toNat).size) = False := eq_false (Nat.not_lt.2 c9)
                obtain rfl := Option.some.inj H
                go_enter Tryd.func38, Tryd.ntmps38
                go_wp2
                repeat (go_quiet (fail); try go_wp2)
                go_ret
                exact ⟨by first | rfl | (simp; done) | (simp only [← hji2] <;> (first | rfl | simp)) | (simp [*]; done), by repeat (first | exact Drawn0.refl _ | apply Drawn0.step)⟩
              · rw [if_neg c9] at H
                exact absurd H (by simp)
            · rw [if_neg c8] at H
              exact absurd H (by simp)
          · rw [if_neg c7] at H
            exact absurd H (by simp)
        · rw [if_neg c6] at H
          exact absurd H (by simp)
      · rw [if_neg c5] at H
        exact absurd H (by simp)
    · rw [if_neg c4] at H
      exact absurd H (by simp)
  · rw [if_neg c3] at H
    exact absurd H (by simp)

/-! ### charset_Text: function 17 -/
noncomputable def wstrRen : Go.Shelf.Ren := ⟨fun | 166 => 37 | 240 => 51 | 276 => 59 | n => n, fun | 0 => 0 | 3 => 3 | 4 => 4 | 9 => 9 | 20 => 20 | 37 => 51 | 70 => 50 | 72 => 53 | 75 => 66 | 164 => 91 | 5 => 5 | 80 => 57 | n => n, fun | n => n⟩
theorem wstrLays : Go.Proofs.Lays.n166 Tryd.prog wstrRen := {
  mixed := by kernel_rfl
  f166 := Tryd.func37.trans (congrArg some (by kernel_rfl))
  f240 := Tryd.func51.trans (congrArg some (by kernel_rfl))
  f276 := Tryd.func59.trans (congrArg some (by kernel_rfl))
  t0 := Tryd.underlying0
  a0 := Tryd.isAgg0
  z0 := Tryd.sizeOf0
  v0 := Tryd.zeroValue0
  t3 := Tryd.underlying3
  a3 := Tryd.isAgg3
  z3 := Tryd.sizeOf3
  v3 := Tryd.zeroValue3
  t4 := Tryd.underlying4
  a4 := Tryd.isAgg4
  z4 := Tryd.sizeOf4
  v4 := Tryd.zeroValue4
  t9 := Tryd.underlying9
  a9 := Tryd.isAgg9
  z9 := Tryd.sizeOf9
  v9 := Tryd.zeroValue9
  t20 := Tryd.underlying20
  a20 := Tryd.isAgg20
  z20 := Tryd.sizeOf20
  v20 := Tryd.zeroValue20
  t37 := Tryd.underlying51
  a37 := Tryd.isAgg51
  z37 := Tryd.sizeOf51
  v37 := Tryd.zeroValue51
  t70 := Tryd.underlying50
  a70 := Tryd.isAgg50
  z70 := Tryd.sizeOf50
  v70 := Tryd.zeroValue50
  t72 := Tryd.underlying53
  a72 := Tryd.isAgg53
  z72 := Tryd.sizeOf53
  v72 := Tryd.zeroValue53
  t75 := Tryd.underlying66
  a75 := Tryd.isAgg66
  z75 := Tryd.sizeOf66
  v75 := Tryd.zeroValue66
  t164 := Tryd.underlying91
  a164 := Tryd.isAgg91
  z164 := Tryd.sizeOf91
  v164 := Tryd.zeroValue91 }
noncomputable def bstrRen : Go.Shelf.Ren := ⟨fun | 169 => 27 | n => n, fun | 70 => 50 | 9 => 9 | 0 => 0 | 72 => 53 | 37 => 51 | 127 => 75 | 3 => 3 | 5 => 5 | n => n, fun | n => n⟩
theorem bstrLays : Go.Proofs.Lays.n169 Tryd.prog bstrRen := {
  mixed := by kernel_rfl
  f169 := Tryd.func27.trans (congrArg some (by kernel_rfl))
  t0 := Tryd.underlying0
  a0 := Tryd.isAgg0
  z0 := Tryd.sizeOf0
  v0 := Tryd.zeroValue0
  t3 := Tryd.underlying3
  a3 := Tryd.isAgg3
  z3 := Tryd.sizeOf3
  v3 := Tryd.zeroValue3
  t9 := Tryd.underlying9
  a9 := Tryd.isAgg9
  z9 := Tryd.sizeOf9
  v9 := Tryd.zeroValue9
  t37 := Tryd.underlying51
  a37 := Tryd.isAgg51
  z37 := Tryd.sizeOf51
  v37 := Tryd.zeroValue51
  t70 := Tryd.underlying50
  a70 := Tryd.isAgg50
  z70 := Tryd.sizeOf50
  v70 := Tryd.zeroValue50
  t72 := Tryd.underlying53
  a72 := Tryd.isAgg53
  z72 := Tryd.sizeOf53
  v72 := Tryd.zeroValue53
  t127 := Tryd.underlying75
  a127 := Tryd.isAgg75
  z127 := Tryd.sizeOf75
  v127 := Tryd.zeroValue75 }
theorem wstrX : Go.Proofs.Builder.Extra Tryd.prog wstrRen := { sizeBuilder := by kernel_rfl, liesBuilder := by kernel_rfl, t5 := Tryd.underlying5, a5 := Tryd.isAgg5, z5 := Tryd.sizeOf5, v5 := Tryd.zeroValue5, infoByte := by kernel_rfl, cellsByte := by kernel_rfl, sizeByte := by kernel_rfl, neB5 := by decide }
theorem bstrX : Go.Proofs.Builder.Extra Tryd.prog bstrRen := { sizeBuilder := by kernel_rfl, liesBuilder := by kernel_rfl, t5 := Tryd.underlying5, a5 := Tryd.isAgg5, z5 := Tryd.sizeOf5, v5 := Tryd.zeroValue5, infoByte := by kernel_rfl, cellsByte := by kernel_rfl, sizeByte := by kernel_rfl, neB5 := by decide }
theorem wstr_calls (B b : Nat) (bs : List Value) (s : ByteArray) (w : World) (h : Lib.IsBuilder 53 5 B b bs w) (hlen : bs.length + s.size ≤ 140737488355328) (hBw : B ≤ w.heap.size) :
    Calls Tryd.prog 37 #[.pointer (some ⟨b, 0, none⟩), .string s] w fun e w' => e = .returned (.tuple #[.int .i64 s.size, .nilIface]) ∧ (Lib.IsBuilder 53 5 B b (bs ++ Lib.strCells s) w' ∧ Below B w w') := by
  refine (Go.Proofs.Any.Builder_WriteString (ρ := wstrRen) wstrLays wstrX B b bs s w h hlen hBw).mono ?_
  rintro e w' ⟨he, h1, h2⟩
  exact ⟨he, .inr h1, h2⟩
theorem bstr_calls (B b : Nat) (l : List UInt8) (w : World) (h : Lib.IsBuilder 53 5 B b (Lib.byteCells l) w) (hBw : B ≤ w.heap.size) :
    Calls Tryd.prog 27 #[.pointer (some ⟨b, 0, none⟩)] w fun e w' => e = .returned (.string ⟨l.toArray⟩) ∧ Below B w w' :=
  Go.Proofs.Any.Builder_String_any (ρ := bstrRen) bstrLays bstrX B b l w h hBw
theorem bld_below {T e : TypeId} {B b : Nat} {bs : List Value} {w w' : World} (h : Lib.IsBuilder T e B b bs w) (hb : Below w.heap.size w w') : Lib.IsBuilder T e B b bs w' := by
  have step : ∀ p, Lib.BuilderAt T e B b p bs w → Lib.BuilderAt T e B b p bs w' := by
    rintro p ⟨hB, v, h1, h2, h3⟩
    exact ⟨hB, v, blk_below h1 hb, pw_own_below h2 hb, h3⟩
  rcases h with h | h
  · exact .inl (step _ h)
  · exact .inr (step _ h)
def hex8 (i : Nat) : ByteArray := ⟨#[dgU ((i : Int) / 16), dgU ((i : Int) % 16)]⟩
def lineT (i : Nat) (x : Int) : ByteArray := hex8 i ++ ⟨#[32]⟩ ++ hexB x ++ ⟨#[10]⟩
def textG : List Int → Nat → List UInt8 → List UInt8
  | [], _, acc => acc
  | x :: r, i, acc => textG r (i + 1) (if x = -1 then acc else acc ++ (lineT i x).data.toList)
theorem hex8_20 : ∀ i : Fin 256, charset_hex.f (i.val : Int) = some (hex8 i.val) := by decide +kernel
theorem lineT_size (i : Nat) (x : Int) : (lineT i x).size ≤ 11 := by
  have := hexB_size x
  unfold lineT
  rw [ByteArray.size_append, ByteArray.size_append, ByteArray.size_append]; show 2 + 1 + (hexB x).size + 1 ≤ 11; omega
theorem strCells_bytes (s : ByteArray) : Lib.strCells s = Lib.byteCells s.data.toList := rfl
def charset_Text.f (l0_0 : List Int) : Option (ByteArray × Int) := if intsB l0_0 = true then (if checkB l0_0 = 0 then some (⟨(textG l0_0 0 []).toArray⟩, 0) else some (⟨#[]⟩, checkB l0_0)) else none
set_option maxHeartbeats 6400000 in
set_option maxRecDepth 100000 in
theorem charset_Text.calls (A0_0 : Option Addr) (c0_0 : Nat) (l0_0 : List Int) (r1 : ByteArray) (r2 : Int) (w : World) (hr0_0 : Kd.C (Kd.int .i64) w A0_0 l0_0.length l0_0) (hc0_0 : l0_0.length ≤ c0_0) (h : charset_Text.f l0_0 = some (r1, r2)) :
    Calls Tryd.prog 17 #[.agg #[.slice A0_0 l0_0.length c0_0]] w fun e w' => e = .returned (.tuple #[.string r1, .int .i64 r2]) ∧ Below w.heap.size w w' := by
  unfold charset_Text.f at h
  by_cases hz : intsB l0_0 = true
  case neg => rw [if_neg hz] at h; cases h
  rw [if_pos hz] at h
  have R0 := Aside0.mk hr0_0
  have hck : charset_Check.f l0_0 = some (checkB l0_0) := by unfold charset_Check.f; rw [if_pos hz]
  have HZ := Aside0.mk hz
  clear hr0_0 hz
  by_cases hq : checkB l0_0 = 0
  case neg =>
    rw [if_neg hq] at h
    injection h with h
    injection h with h1 h2
    subst h1; subst h2
    generalize checkB l0_0 = q at hq hck ⊢
    have HCK := Aside0.mk hck
    clear hck
    go_enter Tryd.func17, Tryd.ntmps17
    go_wp2_with (go_at_call 9; refine (charset_Check.calls _ _ _ _ _ (Kd.C_below R0.out (below_alloc (Below.refl _ _) _)) hc0_0 HCK.out).mono ?_; rintro e w1 ⟨rfl, hb⟩)
    go_ret2
    exact ⟨rfl, (below_alloc (Below.refl _ _) _).trans (hb.mono (by simp))⟩
  rw [if_pos hq] at h
  injection h with h
  injection h with h1 h2
  subst h1; subst h2
  have hl256 := Aside0.mk (check_len hq)
  rw [hq] at hck
  have HCK := Aside0.mk hck
  clear hck hq
  go_enter Tryd.func17, Tryd.ntmps17
  go_wp2_with (go_at_call 9; refine (charset_Check.calls _ _ _ _ _ (Kd.C_below R0.out (below_alloc (Below.refl _ _) _)) hc0_0 HCK.out).mono ?_; rintro e w1 ⟨rfl, hb⟩; have hblk := blk_below (blk_new w (.cells #[.slice A0_0 l0_0.length c0_0] 24)) hb; have hbx : w1.cell? ⟨w.heap.size, 0, none⟩ = some (.slice A0_0 l0_0.length c0_0) := blk_cell hblk 0; clear hblk; have hbx2 : (w1.alloc (.cells #[.pointer none, .slice none 0 0] 53)).cell? ⟨w.heap.size, 0, none⟩ = some (.slice A0_0 l0_0.length c0_0) := pw_cell_below (below_alloc (Below.refl _ _) _) hbx)
  have HB1 : Aside0 (Below w.heap.size w w1) := ⟨(below_alloc (Below.refl _ _) _).trans (hb.mono (by simp))⟩
  have hw1 : w.heap.size ≤ w1.heap.size := HB1.out.size
  clear hb
  go_loopw [16] (fun i wr => ∃ (k : Nat) (acc : List UInt8), k ≤ l0_0.length ∧ i = .int .i64 k ∧ acc.length ≤ 20 * k ∧ Aside0 (textG (l0_0.drop k) k acc = textG l0_0 0 []) ∧ Aside0 (Lib.IsBuilder 53 5 w1.heap.size w1.heap.size (Lib.byteCells acc) wr) ∧ w1.heap.size ≤ wr.heap.size ∧ Aside0 (Below w.heap.size w wr)) (fun i _ => l0_0.length - (intOf i).toNat)
  case atStart => exact ⟨0, [], Nat.zero_le _, rfl, Nat.zero_le _, ⟨rfl⟩, ⟨Lib.fresh_isBuilder _ _ _⟩, by simp, ⟨below_alloc HB1.out _⟩⟩
  case round =>
    obtain ⟨k, acc, hk, rfl, hal, hG, hE, hwr, hB⟩ := hrel
    have hk256 : k ≤ 256 := by have := hl256.out; omega
    by_cases hlt : k < l0_0.length
    · obtain ⟨ad, e, x0⟩ := Kd.at_int (Kd.C_below R0.out hB.out) (k : Int) (by omega) (by omega)
      cases e
      obtain ⟨x, hx⟩ : ∃ x, x = rd l0_0 (k : Int) := ⟨_, rfl⟩
      rw [← hx, show ((k : Int)).toNat = k from rfl] at x0
      have hwf : -9223372036854775808 ≤ x ∧ x ≤ 9223372036854775807 := by rw [hx]; exact ints_at HZ.out k
      have hg := hG.out
      have hdr : l0_0.drop k = x :: l0_0.drop (k + 1) := by rw [hx]; exact drop_at l0_0 0 k hlt
      rw [hdr, textG] at hg
      clear hx hdr hwf
      by_cases hn : x = -1
      · rw [if_pos hn] at hg
        have HG2 := Aside0.mk hg
        subst hn
        clear hg
        go_wp2
        go_roundw
        case rel => exact ⟨k + 1, acc, by omega, by go_num, by omega, HG2, hE, hwr, hB⟩
        case measure => simp [intOf]; omega
      · rw [if_neg hn] at hg
        have HG2 := Aside0.mk hg
        clear hg
        have HH8 : Aside0 (charset_hex.f ((k : Nat) : Int) = some (hex8 k)) := ⟨hex8_20 ⟨k, by have := hl256.out; omega⟩⟩
        have hHX : codepoint_Hex.f x = some (hexB x) := rfl
        have hls := lineT_size k x
        have HLT : Aside0 (lineT k x = hex8 k ++ ⟨#[32]⟩ ++ hexB x ++ ⟨#[10]⟩) := ⟨rfl⟩
        have hxs := hexB_size x
        have h8s : (hex8 k).size = 2 := rfl
        generalize hexB x = hxv at hHX HLT hxs
        generalize hex8 k = h8v at HH8 HLT h8s
        generalize lineT k x = ltv at HLT hls HG2
        have HHX := Aside0.mk hHX
        clear hHX
        have s1 : h8v.size + (⟨#[32]⟩ : ByteArray).size ≤ 9223372036854775807 := by show h8v.size + 1 ≤ _; omega
        have s2 : (h8v ++ (⟨#[32]⟩ : ByteArray)).size + hxv.size ≤ 9223372036854775807 := by rw [ByteArray.size_append]; show h8v.size + 1 + hxv.size ≤ _; omega
        have s3 : (h8v ++ (⟨#[32]⟩ : ByteArray) ++ hxv).size + (⟨#[10]⟩ : ByteArray).size ≤ 9223372036854775807 := by rw [ByteArray.size_append, ByteArray.size_append]; show h8v.size + 1 + hxv.size + 1 ≤ _; omega
        have hk8 : (k : Int) % 256 = (k : Int) := by have := hl256.out; omega
        have HK8 := Aside0.mk hk8
        clear hk8
        go_wp2_with fail
        rw [HK8.out]
        refine (charset_hex.calls _ _ _ HH8.out).mono ?_
        rintro e w2 ⟨rfl, hd⟩
        have hb2 := hd.below
        clear hd
        have hE2 := Aside0.mk (bld_below hE.out hb2)
        have hw2 := hb2.size
        go_wp2_with fail
        refine (codepoint_Hex.calls _ _ _ HHX.out).mono ?_
        rintro e w3 ⟨rfl, hb3⟩
        have hE3 := Aside0.mk (bld_below hE2.out hb3)
        have hw3 := hb3.size
        go_wp2_with fail
        rw [← HLT.out]
        refine (wstr_calls w1.heap.size w1.heap.size (Lib.byteCells acc) ltv w3 hE3.out (by rw [Lib.byteCells_length]; omega) (by omega)).mono ?_
        rintro e w4 ⟨rfl, hE4, hb4⟩
        have hw4 := hb4.size
        go_wp2
        go_roundw
        case rel =>
          refine ⟨k + 1, acc ++ ltv.data.toList, by omega, by go_num, by rw [List.length_append, data_length]; omega, HG2, ⟨?_⟩, by omega, ⟨?_⟩⟩
          · have e : Lib.byteCells (acc ++ ltv.data.toList) = Lib.byteCells acc ++ Lib.strCells ltv := by rw [strCells_bytes]; unfold Lib.byteCells; rw [List.map_append]
            rw [e]; exact hE4
          · exact ((hB.out.trans (hb2.mono hB.out.size)).trans (hb3.mono (by omega))).trans (hb4.mono (by omega))
        case measure => simp [intOf]; omega
    · have hdr : l0_0.drop k = [] := List.drop_of_length_le (by omega)
      have hg := hG.out
      rw [hdr, textG] at hg
      have HG2 := Aside0.mk hg
      clear hdr hg
      go_wp2_with (go_at_call 27; refine (bstr_calls w1.heap.size w1.heap.size acc wr hE.out hwr).mono ?_; rintro e w6 ⟨rfl, hb6⟩)
      go_ret2
      exact ⟨by rw [HG2.out]; rfl, hB.out.trans (hb6.mono (by omega))⟩

/-! ### prelude cents -/
def entsL : List Int → Nat → List (Nat × Int)
  | [], _ => []
  | x :: r, i => if x = -1 then entsL r (i + 1) else (i, x) :: entsL r (i + 1)
def lineC (p : Nat × Int) : List UInt8 := dgU ((p.1 : Int) / 16) :: dgU ((p.1 : Int) % 16) :: 32 :: (hexB p.2).data.toList
theorem lineT_data (i : Nat) (x : Int) : (lineT i x).data.toList = lineC (i, x) ++ [10] := by
  unfold lineT lineC hex8
  rw [ByteArray.data_append, ByteArray.data_append, ByteArray.data_append]
  simp
theorem textG_ents : ∀ (l : List Int) (i : Nat) (acc : List UInt8), textG l i acc = acc ++ (entsL l i).flatMap fun p => lineC p ++ [10] := by
  intro l
  induction l with
  | nil => intro i acc; rw [textG, entsL, List.flatMap_nil, List.append_nil]
  | cons x r ih =>
    intro i acc
    rw [textG, entsL, ih]
    by_cases h : x = -1
    · rw [if_pos h, if_pos h]
    · rw [if_neg h, if_neg h, List.flatMap_cons, lineT_data, List.append_assoc]
theorem dgU_val (d : Nat) (h : d < 16) : digI ((dgU (d : Int)).toNat : Int) = (d : Int) := by
  have key : ∀ e : Fin 16, digI ((dgU (e.val : Int)).toNat : Int) = (e.val : Int) := by decide +kernel
  exact key ⟨d, h⟩
theorem dgU_ne (x : Int) (h0 : 0 ≤ x) (h1 : x < 16) : dgU x ≠ 10 := by
  have key : ∀ e : Fin 16, dgU (e.val : Int) ≠ 10 := by decide +kernel
  have := key ⟨x.toNat, by omega⟩
  rwa [show ((x.toNat : Nat) : Int) = x from by omega] at this
theorem hexL_ne : ∀ (k : Nat) (c : Int) (acc : List UInt8), (∀ b ∈ acc, b ≠ 10) → ∀ b ∈ hexL k c acc, b ≠ 10 := by
  intro k
  induction k with
  | zero => intro c acc h; exact h
  | succ k ih =>
    intro c acc h
    rw [hexL]
    split
    · refine ih _ _ fun b hb => ?_
      rcases List.mem_cons.1 hb with rfl | hb
      · exact dgU_ne _ (by omega) (by omega)
      · exact h b hb
    · exact h
theorem hexB_ne (x : Int) : ∀ b ∈ (hexB x).data.toList, b ≠ 10 := by
  unfold hexB
  split
  · exact hexL_ne 7 x [] (fun b hb => by cases hb)
  · intro b hb; cases hb
theorem lineC_ne (p : Nat × Int) (h : p.1 < 256) : ∀ b ∈ lineC p, b ≠ 10 := by
  intro b hb
  unfold lineC at hb
  rcases List.mem_cons.1 hb with rfl | hb
  · exact dgU_ne _ (by omega) (by omega)
  rcases List.mem_cons.1 hb with rfl | hb
  · exact dgU_ne _ (by omega) (by omega)
  rcases List.mem_cons.1 hb with rfl | hb
  · decide
  · exact hexB_ne _ b hb
theorem linesL_app : ∀ (a t : List UInt8), (∀ b ∈ a, b ≠ 10) → linesL (a ++ t) = joinL a (linesL t) := by
  intro a
  induction a with
  | nil => intro t _; exact (joinL_nil (linesL_ne t)).symm
  | cons b r ih =>
    intro t h
    rw [List.cons_append, linesL_other (h b (List.mem_cons_self ..)), ih t (fun c hc => h c (List.mem_cons_of_mem _ hc)), joinL_join]
    rfl
theorem lines_text : ∀ ps : List (Nat × Int), (∀ p ∈ ps, p.1 < 256) → linesL (ps.flatMap fun p => lineC p ++ [10]) = ps.map lineC ++ [[]] := by
  intro ps
  induction ps with
  | nil => intro _; rfl
  | cons p r ih =>
    intro h
    rw [List.flatMap_cons, List.append_assoc, linesL_app _ _ (lineC_ne p (h p (List.mem_cons_self ..))), List.singleton_append, linesL_nl, ih (fun q hq => h q (List.mem_cons_of_mem _ hq))]
    show (lineC p ++ []) :: _ = _
    rw [List.append_nil]; rfl
theorem lines_turned : ∀ M : List (List UInt8), (∀ a ∈ M, ∀ b ∈ a, b ≠ 10) → linesL (M.flatMap fun a => 10 :: a) = [] :: M := by
  intro M
  induction M with
  | nil => intro _; rfl
  | cons a r ih =>
    intro h
    rw [List.flatMap_cons, List.cons_append, linesL_nl, linesL_app _ _ (h a (List.mem_cons_self ..)), ih (fun q hq => h q (List.mem_cons_of_mem _ hq))]
    show [] :: (a ++ []) :: r = _
    rw [List.append_nil]
theorem valL_hex : ∀ (n : Nat) (c : Int) (acc : List UInt8), 0 ≤ c → c < ((16 ^ n : Nat) : Int) → valL (hexL n c acc) 0 = valL acc c := by
  intro n
  induction n with
  | zero =>
    intro c acc h0 h1
    rw [Nat.pow_zero] at h1
    rw [hexL, show c = 0 from by omega]
  | succ n ih =>
    intro c acc h0 h1
    rw [hexL]
    by_cases h : acc.length < 4 ∨ 0 < c
    · rw [Nat.pow_succ] at h1
      obtain ⟨d, hd⟩ : ∃ d : Nat, c % 16 = (d : Int) := ⟨(c % 16).toNat, by omega⟩
      have hv := dgU_val d (by omega)
      rw [if_pos h, ih (c / 16) _ (by omega) (by generalize 16 ^ n = P at h1 ⊢; omega), hd, valL, hv, if_neg (by omega), show 16 * (c / 16) + (d : Int) = c from by omega]
    · rw [if_neg h, show c = 0 from by omega]
theorem hexL_max : ∀ (n m : Nat) (c : Int) (acc : List UInt8), 0 ≤ c → c < ((16 ^ m : Nat) : Int) → (hexL n c acc).length ≤ max (acc.length + m) 4 := by
  intro n
  induction n with
  | zero => intro m c acc h0 h1; rw [hexL]; omega
  | succ n ih =>
    intro m c acc h0 h1
    rw [hexL]
    by_cases h : acc.length < 4 ∨ 0 < c
    · rw [if_pos h]
      by_cases hc : 0 < c
      · cases m with
        | zero => rw [Nat.pow_zero] at h1; omega
        | succ m =>
          rw [Nat.pow_succ] at h1
          have := ih m (c / 16) (dgU (c % 16) :: acc) (by omega) (by generalize 16 ^ m = P at h1 ⊢; omega)
          rw [List.length_cons] at this; omega
      · have := ih 0 (c / 16) (dgU (c % 16) :: acc) (by omega) (by rw [Nat.pow_zero]; omega)
        rw [List.length_cons] at this; omega
    · rw [if_neg h]; omega
theorem parseS_hex (x : Int) (h : 0 ≤ x ∧ x ≤ 1114111) : parseS (hexB x) = (x, 0) := by
  have e : hexB x = ⟨(hexL 7 x []).toArray⟩ := by unfold hexB; rw [if_pos h]
  have e7 : (16 : Nat) ^ 7 = 268435456 := by decide
  have e6 : (16 : Nat) ^ 6 = 16777216 := by decide
  have h4 := hexL_min 7 x [] (by decide)
  have h6 := hexL_max 7 6 x [] h.1 (by rw [e6]; omega)
  have hv := valL_hex 7 x [] h.1 (by rw [e7]; omega)
  have hd : (hexB x).data.toList = hexL 7 x [] := by rw [e]
  have hs : (hexB x).size = (hexL 7 x []).length := by rw [e, bsize]
  rw [List.length_nil] at h6
  unfold parseS
  rw [if_pos ⟨by omega, by omega⟩, hd, hv, valL, endP, if_pos rfl]
theorem bt_mk (l : List UInt8) (i : Nat) (h : i < l.length) : bt (mkB l) (i : Int) = ((l.getD i 0).toNat : Int) := by
  rw [bt_byte (mkB l) i (by unfold mkB; rw [bsize]; exact h), List.getD_eq_getElem?_getD, List.getElem?_eq_getElem h]
  rfl
theorem line_ent (p : Nat × Int) (h : p.1 < 256) (hx : scalarB p.2 = true) : charset_line.f 100 (mkB (lineC p)) = some ((p.1 : Int), p.2, true) := by
  have hb := scalar_bounds hx
  have hps := parseS_hex p.2 hb
  have hl : (lineC p).length = (hexB p.2).size + 3 := by unfold lineC; rw [List.length_cons, List.length_cons, List.length_cons, data_length]
  have hm : 4 ≤ (hexB p.2).size := by
    have e : hexB p.2 = ⟨(hexL 7 p.2 []).toArray⟩ := by unfold hexB; rw [if_pos hb]
    rw [e, bsize]; exact hexL_min 7 p.2 [] (by decide)
  have hsz : (mkB (lineC p)).size = (hexB p.2).size + 3 := by unfold mkB; rw [bsize, hl]
  have b0 : bt (mkB (lineC p)) 0 = ((dgU ((p.1 : Int) / 16)).toNat : Int) := bt_mk (lineC p) 0 (by omega)
  have b1 : bt (mkB (lineC p)) 1 = ((dgU ((p.1 : Int) % 16)).toNat : Int) := bt_mk (lineC p) 1 (by omega)
  have b2 : bt (mkB (lineC p)) 2 = 32 := bt_mk (lineC p) 2 (by omega)
  have r0 := bt_range (mkB (lineC p)) 0
  have r1 := bt_range (mkB (lineC p)) 1
  have d0 : digI (bt (mkB (lineC p)) 0) = (p.1 : Int) / 16 := by
    rw [b0]
    have := dgU_val (p.1 / 16) (by omega)
    rwa [show ((p.1 / 16 : Nat) : Int) = (p.1 : Int) / 16 from by omega] at this
  have d1 : digI (bt (mkB (lineC p)) 1) = (p.1 : Int) % 16 := by
    rw [b1]
    have := dgU_val (p.1 % 16) (by omega)
    rwa [show ((p.1 % 16 : Nat) : Int) = (p.1 : Int) % 16 from by omega] at this
  have hx3 : (mkB (lineC p)).extract 3 (mkB (lineC p)).size = hexB p.2 := by
    rw [Go.Lib.extract_eq]
    have e : (mkB (lineC p)).data.toList = lineC p := rfl
    rw [e, hsz, Nat.add_sub_cancel]
    have e2 : (lineC p).drop 3 = (hexB p.2).data.toList := rfl
    rw [e2, List.take_of_length_le (by rw [data_length]; exact Nat.le_refl _)]
  unfold charset_line.f
  rw [if_neg (by omega), if_pos (by omega), b2, show ((32 : Int) != 32) = false from rfl, charset_line.j0, if_neg (by decide), if_pos (by omega), idx_f _ r0.1 r0.2, Option.bind_some, if_pos (by omega), idx_f _ r1.1 r1.2, Option.bind_some, if_pos (by omega), hx3, pparse_f _ _ (by omega), Option.bind_some, hps, d0, d1, if_pos (by omega), if_pos (by omega), if_pos rfl, scalar_f, hx, Option.bind_some, cw64 (16 * _) (by omega) (by omega), cw64 _ (by omega) (by omega), show 16 * ((p.1 : Int) / 16) + (p.1 : Int) % 16 = (p.1 : Int) from by omega]
def lineO : Option (Nat × Int) → ByteArray
  | none => ⟨#[]⟩
  | some p => mkB (lineC p)
def setAll (codes : List Int) (ps : List (Nat × Int)) : List Int := ps.foldl (fun c p => c.set p.1 p.2) codes
theorem setAll_len : ∀ (ps : List (Nat × Int)) (codes : List Int), (setAll codes ps).length = codes.length := by
  intro ps
  induction ps with
  | nil => intro codes; rfl
  | cons p r ih => intro codes; unfold setAll at ih ⊢; rw [List.foldl_cons, ih, List.length_set]
theorem getD_set (l : List Int) (n i : Nat) (x : Int) (hn : n < l.length) : (l.set n x).getD i 0 = if n = i then x else l.getD i 0 := by
  rw [List.getD_eq_getElem?_getD, List.getElem?_set, List.getD_eq_getElem?_getD]
  by_cases h : n = i
  · rw [if_pos h, if_pos hn, if_pos h]; rfl
  · rw [if_neg h, if_neg h]
theorem setAll_out : ∀ (ps : List (Nat × Int)) (codes : List Int) (i : Nat), (∀ p ∈ ps, p.1 < codes.length) → (∀ p ∈ ps, p.1 ≠ i) → (setAll codes ps).getD i 0 = codes.getD i 0 := by
  intro ps
  induction ps with
  | nil => intro codes i _ _; rfl
  | cons p r ih =>
    intro codes i hb h
    have := ih (codes.set p.1 p.2) i (fun q hq => by rw [List.length_set]; exact hb q (List.mem_cons_of_mem _ hq)) (fun q hq => h q (List.mem_cons_of_mem _ hq))
    unfold setAll at this ⊢
    rw [List.foldl_cons, this, getD_set _ _ _ _ (hb p (List.mem_cons_self ..)), if_neg (h p (List.mem_cons_self ..))]
theorem setAll_in : ∀ (ps : List (Nat × Int)) (codes : List Int), (∀ p ∈ ps, p.1 < codes.length) → ps.Pairwise (fun p q => p.1 ≠ q.1) → ∀ p ∈ ps, (setAll codes ps).getD p.1 0 = p.2 := by
  intro ps
  induction ps with
  | nil => intro codes _ _ p hp; cases hp
  | cons q r ih =>
    intro codes hb hw p hp
    rw [List.pairwise_cons] at hw
    have hbr : ∀ q' ∈ r, q'.1 < (codes.set q.1 q.2).length := fun q' hq => by rw [List.length_set]; exact hb q' (List.mem_cons_of_mem _ hq)
    rcases List.mem_cons.1 hp with rfl | hp
    · have := setAll_out r (codes.set p.1 p.2) p.1 hbr (fun q' hq => (hw.1 q' hq).symm)
      unfold setAll at this ⊢
      rw [List.foldl_cons, this, getD_set _ _ _ _ (hb p (List.mem_cons_self ..)), if_pos rfl]
    · have := ih (codes.set q.1 q.2) hbr hw.2 p hp
      unfold setAll at this ⊢
      rw [List.foldl_cons]; exact this
theorem par_ents : ∀ (M : List (Option (Nat × Int))) (n : Nat) (codes seen : List Int), codes.length = 256 → (∀ p ∈ M.filterMap id, p.1 < 256 ∧ scalarB p.2 = true ∧ codes.getD p.1 0 = -1 ∧ (seen.any fun y => decide (y = p.2)) = false) →
    (M.filterMap id).Pairwise (fun p q => p.1 ≠ q.1 ∧ p.2 ≠ q.2) → parseG (M.map lineO) n codes seen = some (setAll codes (M.filterMap id), 0, 0) := by
  intro M
  induction M with
  | nil => intro n codes seen _ _ _; rfl
  | cons o r ih =>
    intro n codes seen hl hp hw
    cases o with
    | none =>
      rw [List.map_cons, parseG, if_pos (show (lineO none).toList = [] by rw [ByteArray.toList_eq]; rfl)]
      exact ih (n + 1) codes seen hl hp hw
    | some p =>
      have hf : (some p :: r).filterMap id = p :: r.filterMap id := rfl
      rw [hf] at hp hw ⊢
      rw [List.pairwise_cons] at hw
      obtain ⟨h1, h2, h3, h4⟩ := hp p (List.mem_cons_self ..)
      have hb := scalar_bounds h2
      have hne : ¬ (lineO (some p)).toList = [] := by
        rw [ByteArray.toList_eq]
        show ¬ lineC p = []
        exact List.cons_ne_nil _ _
      have hline : charset_line.f 100 (lineO (some p)) = some ((p.1 : Int), p.2, true) := line_ent p h1 h2
      have hstep : parseG (lineO (some p) :: r.map lineO) n codes seen = parseG (r.map lineO) (n + 1) (codes.set p.1 p.2) (seen ++ [p.2]) := by
        have hc1 : 0 ≤ (p.1 : Int) ∧ (p.1 : Int) < 256 ∧ -9223372036854775808 ≤ p.2 ∧ p.2 ≤ 9223372036854775807 := ⟨by omega, by omega, by omega, by omega⟩
        rw [parseG, if_neg hne, hline, Option.bind_some]
        simp only [if_true, if_pos hc1, Int.toNat_natCast]
        exact if_pos ⟨h3, h4⟩
      rw [List.map_cons, hstep]
      refine ih (n + 1) (codes.set p.1 p.2) (seen ++ [p.2]) (by rw [List.length_set]; exact hl) (fun q hq => ?_) hw.2
      obtain ⟨q1, q2, q3, q4⟩ := hp q (List.mem_cons_of_mem _ hq)
      have hne2 := hw.1 q hq
      refine ⟨q1, q2, ?_, ?_⟩
      · rw [getD_set _ _ _ _ (by omega), if_neg hne2.1]; exact q3
      · rw [any_snoc, q4, decide_eq_false hne2.2]; rfl
theorem ents_mem : ∀ (l : List Int) (i : Nat) (p : Nat × Int), p ∈ entsL l i ↔ i ≤ p.1 ∧ p.1 < i + l.length ∧ l.getD (p.1 - i) 0 = p.2 ∧ p.2 ≠ -1 := by
  intro l
  induction l with
  | nil =>
    intro i p
    rw [entsL]
    constructor
    · intro h; cases h
    · rintro ⟨h1, h2, _⟩; rw [List.length_nil] at h2; omega
  | cons x r ih =>
    intro i p
    rw [entsL]
    have tail : p ∈ entsL r (i + 1) ↔ i + 1 ≤ p.1 ∧ p.1 < i + (r.length + 1) ∧ (x :: r).getD (p.1 - i) 0 = p.2 ∧ p.2 ≠ -1 := by
      rw [ih (i + 1) p]
      constructor
      · rintro ⟨h1, h2, h3, h4⟩
        refine ⟨h1, by omega, ?_, h4⟩
        rw [show p.1 - i = (p.1 - (i + 1)) + 1 from by omega, List.getD_cons_succ]; exact h3
      · rintro ⟨h1, h2, h3, h4⟩
        refine ⟨h1, by omega, ?_, h4⟩
        rw [show p.1 - i = (p.1 - (i + 1)) + 1 from by omega, List.getD_cons_succ] at h3; exact h3
    by_cases h : x = -1
    · rw [if_pos h, tail, List.length_cons]
      constructor
      · rintro ⟨h1, h2, h3, h4⟩; exact ⟨by omega, h2, h3, h4⟩
      · rintro ⟨h1, h2, h3, h4⟩
        refine ⟨?_, h2, h3, h4⟩
        by_cases e : p.1 = i
        · rw [e, Nat.sub_self, List.getD_cons_zero] at h3
          exact absurd (h3.symm.trans h) h4
        · omega
    · rw [if_neg h, List.mem_cons, tail, List.length_cons]
      constructor
      · rintro (rfl | ⟨h1, h2, h3, h4⟩)
        · exact ⟨Nat.le_refl _, by show i < i + (r.length + 1); omega, by show (x :: r).getD (i - i) 0 = x; rw [Nat.sub_self, List.getD_cons_zero], h⟩
        · exact ⟨by omega, h2, h3, h4⟩
      · rintro ⟨h1, h2, h3, h4⟩
        by_cases e : p.1 = i
        · left
          rw [e, Nat.sub_self, List.getD_cons_zero] at h3
          exact Prod.ext e h3.symm
        · right; exact ⟨by omega, h2, h3, h4⟩
theorem ents_pw : ∀ (l pre : List Int) (i : Nat), dupI pre l = false → (entsL l i).Pairwise (fun p q => p.1 ≠ q.1 ∧ p.2 ≠ q.2) := by
  intro l
  induction l with
  | nil => intro pre i _; exact List.Pairwise.nil
  | cons x r ih =>
    intro pre i h
    rw [dupI, Bool.or_eq_false_iff] at h
    have hr := ih (pre ++ [x]) (i + 1) h.2
    rw [entsL]
    by_cases e : x = -1
    · rw [if_pos e]; exact hr
    · rw [if_neg e, List.pairwise_cons]
      refine ⟨fun q hq => ?_, hr⟩
      have hm := (ents_mem r (i + 1) q).1 hq
      refine ⟨by show i ≠ q.1; omega, ?_⟩
      intro e2
      have ho := dup_out r (pre ++ [x]) x e h.2 (by rw [any_snoc, decide_eq_true rfl, Bool.or_true])
      rw [List.any_eq_false] at ho
      have hlt : q.1 - (i + 1) < r.length := by omega
      have hmem : r.getD (q.1 - (i + 1)) 0 ∈ r := by
        rw [List.getD_eq_getElem?_getD, List.getElem?_eq_getElem hlt]; exact List.getElem_mem hlt
      rw [hm.2.2.1] at hmem
      exact ho _ hmem (decide_eq_true e2.symm)
theorem list_ext (a b : List Int) (h : a.length = b.length) (hg : ∀ i, i < a.length → a.getD i 0 = b.getD i 0) : a = b := by
  refine List.ext_getElem h fun i h1 h2 => ?_
  have := hg i h1
  rw [List.getD_eq_getElem?_getD, List.getD_eq_getElem?_getD, List.getElem?_eq_getElem h1, List.getElem?_eq_getElem h2] at this
  exact this
theorem setAll_ents {l : List Int} (hl : l.length = 256) (ps : List (Nat × Int)) (hm : ∀ p, p ∈ ps ↔ p ∈ entsL l 0) (hw : ps.Pairwise (fun p q => p.1 ≠ q.1 ∧ p.2 ≠ q.2)) : setAll (List.replicate 256 (-1)) ps = l := by
  have hb : ∀ p ∈ ps, p.1 < (List.replicate 256 (-1 : Int)).length := fun p hp => by
    have := (ents_mem l 0 p).1 ((hm p).1 hp)
    rw [List.length_replicate]; omega
  have hw1 : ps.Pairwise (fun p q => p.1 ≠ q.1) := hw.imp fun h => h.1
  refine list_ext _ _ (by rw [setAll_len, List.length_replicate, hl]) fun i hi => ?_
  rw [setAll_len, List.length_replicate] at hi
  by_cases h : l.getD i 0 = -1
  · rw [setAll_out ps _ i hb ?_, h]
    · rw [List.getD_eq_getElem?_getD, List.getElem?_replicate, if_pos hi]; rfl
    · intro p hp e
      have := (ents_mem l 0 p).1 ((hm p).1 hp)
      rw [Nat.sub_zero, e, h] at this
      exact this.2.2.2 this.2.2.1.symm
  · have hin : (i, l.getD i 0) ∈ ps := (hm _).2 ((ents_mem l 0 _).2 ⟨Nat.zero_le _, by show i < 0 + l.length; omega, by show l.getD (i - 0) 0 = _; rw [Nat.sub_zero], h⟩)
    exact setAll_in ps _ hb hw1 _ hin
theorem par_lines {l : List Int} (h : checkB l = 0) (M : List (Option (Nat × Int))) (hm : ∀ p, p ∈ M.filterMap id ↔ p ∈ entsL l 0) (hw : (M.filterMap id).Pairwise (fun p q => p.1 ≠ q.1 ∧ p.2 ≠ q.2)) : parseG (M.map lineO) 0 (List.replicate 256 (-1)) [] = some (l, 0, 0) := by
  obtain ⟨hl, hb, hd⟩ := check_ok h
  rw [par_ents M 0 _ _ (List.length_replicate ..) (fun p hp => ?_) hw, setAll_ents hl _ hm hw]
  have hp2 := (ents_mem l 0 p).1 ((hm p).1 hp)
  have hlt : p.1 < l.length := by omega
  have hmem : l.getD (p.1 - 0) 0 ∈ l := by
    rw [Nat.sub_zero, List.getD_eq_getElem?_getD, List.getElem?_eq_getElem hlt]; exact List.getElem_mem hlt
  rw [hp2.2.2.1] at hmem
  refine ⟨by omega, ?_, ?_, rfl⟩
  · rcases not_bad (Bool.eq_false_iff.2 (List.any_eq_false.1 hb _ hmem)) with q | q
    · exact absurd q hp2.2.2.2
    · exact q
  · rw [List.getD_eq_getElem?_getD, List.getElem?_replicate, if_pos (by omega)]; rfl

/-! ### unicodetextref06_Text: function 18 -/
def unicodetextref06_Text.l0 : Nat → ByteArray → Int → List Int → Option (ByteArray × Int)
  | 0, _, _, _ => none
  | k + 1, x5, x6, x244000 => if x6 < 256 then (if 0 ≤ x6 then (if x6 < (x244000.length : Int) then (if (rd x244000 x6) ≥ 0 then (if 0 ≤ (wrap64 (Int.tdiv x6 16)) then (if (wrap64 (Int.tdiv x6 16)) ≤ (wrap64 ((wrap64 (Int.tdiv x6 16)) + 1)) then (if (wrap64 ((wrap64 (Int.tdiv x6 16)) + 1)) ≤ 16 then (if 0 ≤ (Int.tmod x6 16) then (if (Int.tmod x6 16) ≤ (wrap64 ((Int.tmod x6 16) + 1)) then (if (wrap64 ((Int.tmod x6 16) + 1)) ≤ 16 then (if ((⟨#[48, 49, 50, 51, 52, 53, 54, 55, 56, 57, 65, 66, 67, 68, 69, 70]⟩ : ByteArray).extract ((wrap64 (Int.tdiv x6 16)) : Int).toNat ((wrap64 ((wrap64 (Int.tdiv x6 16)) + 1)) : Int).toNat).size + ((⟨#[48, 49, 50, 51, 52, 53, 54, 55, 56, 57, 65, 66, 67, 68, 69, 70]⟩ : ByteArray).extract ((Int.tmod x6 16) : Int).toNat ((wrap64 ((Int.tmod x6 16) + 1)) : Int).toNat).size ≤ 9223372036854775807 then (if (((⟨#[48, 49, 50, 51, 52, 53, 54, 55, 56, 57, 65, 66, 67, 68, 69, 70]⟩ : ByteArray).extract ((wrap64 (Int.tdiv x6 16)) : Int).toNat ((wrap64 ((wrap64 (Int.tdiv x6 16)) + 1)) : Int).toNat) ++ ((⟨#[48, 49, 50, 51, 52, 53, 54, 55, 56, 57, 65, 66, 67, 68, 69, 70]⟩ : ByteArray).extract ((Int.tmod x6 16) : Int).toNat ((wrap64 ((Int.tmod x6 16) + 1)) : Int).toNat)).size + 1 ≤ 9223372036854775807 then ((unicodetextref01_Hex.f k (rd x244000 x6)).bind fun t247 => (if ((((⟨#[48, 49, 50, 51, 52, 53, 54, 55, 56, 57, 65, 66, 67, 68, 69, 70]⟩ : ByteArray).extract ((wrap64 (Int.tdiv x6 16)) : Int).toNat ((wrap64 ((wrap64 (Int.tdiv x6 16)) + 1)) : Int).toNat) ++ ((⟨#[48, 49, 50, 51, 52, 53, 54, 55, 56, 57, 65, 66, 67, 68, 69, 70]⟩ : ByteArray).extract ((Int.tmod x6 16) : Int).toNat ((wrap64 ((Int.tmod x6 16) + 1)) : Int).toNat)) ++ (⟨#[32]⟩ : ByteArray)).size + t247.size ≤ 9223372036854775807 then (if (((((⟨#[48, 49, 50, 51, 52, 53, 54, 55, 56, 57, 65, 66, 67, 68, 69, 70]⟩ : ByteArray).extract ((wrap64 (Int.tdiv x6 16)) : Int).toNat ((wrap64 ((wrap64 (Int.tdiv x6 16)) + 1)) : Int).toNat) ++ ((⟨#[48, 49, 50, 51, 52, 53, 54, 55, 56, 57, 65, 66, 67, 68, 69, 70]⟩ : ByteArray).extract ((Int.tmod x6 16) : Int).toNat ((wrap64 ((Int.tmod x6 16) + 1)) : Int).toNat)) ++ (⟨#[32]⟩ : ByteArray)) ++ t247).size + 1 ≤ 9223372036854775807 then (if x5.size + ((((((⟨#[48, 49, 50, 51, 52, 53, 54, 55, 56, 57, 65, 66, 67, 68, 69, 70]⟩ : ByteArray).extract ((wrap64 (Int.tdiv x6 16)) : Int).toNat ((wrap64 ((wrap64 (Int.tdiv x6 16)) + 1)) : Int).toNat) ++ ((⟨#[48, 49, 50, 51, 52, 53, 54, 55, 56, 57, 65, 66, 67, 68, 69, 70]⟩ : ByteArray).extract ((Int.tmod x6 16) : Int).toNat ((wrap64 ((Int.tmod x6 16) + 1)) : Int).toNat)) ++ (⟨#[32]⟩ : ByteArray)) ++ t247) ++ (⟨#[10]⟩ : ByteArray)).size ≤ 9223372036854775807 then (unicodetextref06_Text.l0 k (x5 ++ ((((((⟨#[48, 49, 50, 51, 52, 53, 54, 55, 56, 57, 65, 66, 67, 68, 69, 70]⟩ : ByteArray).extract ((wrap64 (Int.tdiv x6 16)) : Int).toNat ((wrap64 ((wrap64 (Int.tdiv x6 16)) + 1)) : Int).toNat) ++ ((⟨#[48, 49, 50, 51, 52, 53, 54, 55, 56, 57, 65, 66, 67, 68, 69, 70]⟩ : ByteArray).extract ((Int.tmod x6 16) : Int).toNat ((wrap64 ((Int.tmod x6 16) + 1)) : Int).toNat)) ++ (⟨#[32]⟩ : ByteArray)) ++ t247) ++ (⟨#[10]⟩ : ByteArray))) (wrap64 (x6 + 1)) x244000) else (none)) else (none)) else (none))) else (none)) else (none)) else (none)) else (none)) else (none)) else (none)) else (none)) else (none)) else (unicodetextref06_Text.l0 k x5 (wrap64 (x6 + 1)) x244000)) else (none)) else (none)) else (some (x5, 0))
def unicodetextref06_Text.f (k : Nat) (l0_0 : List Int) : Option (ByteArray × Int) := (unicodetextref06_Check.f k l0_0).bind fun t244 => (if t244 = 0 then (unicodetextref06_Text.l0 k (⟨#[]⟩ : ByteArray) 0 l0_0) else (some ((⟨#[]⟩ : ByteArray), t244)))
theorem unicodetextref06_Text.mono_l : ∀ k, (∀ y0 y1 y2, LeO (unicodetextref06_Text.l0 k y0 y1 y2) (unicodetextref06_Text.l0 (k + 1) y0 y1 y2))
  | 0 => fun _ _ _ r h => by simp [unicodetextref06_Text.l0] at h
  | k + 1 => by
    have ih0 := unicodetextref06_Text.mono_l k
    · intro y0 y1 y2
      unfold unicodetextref06_Text.l0
      repeat' first
      | (with_reducible exact ih0 _ _ _)
      | (with_reducible exact unicodetextref01_Hex.mono _ _)
      | (with_reducible exact unicodetextref06_Check.mono _ _)
      | (with_reducible exact LeO.refl _)
      | (with_reducible exact LeO.none _)
      | (with_reducible refine LeO.ite ?_ ?_)
      | (with_reducible refine LeO.bind ?_ (fun _ => ?_))
      | exact ih0 _ _ _
      | exact unicodetextref01_Hex.mono _ _
      | exact unicodetextref06_Check.mono _ _
      | exact LeO.none _
      | refine LeO.ite ?_ ?_
      | refine LeO.bind ?_ (fun _ => ?_)
theorem unicodetextref06_Text.mono : ∀ a0 k, LeO (unicodetextref06_Text.f k a0) (unicodetextref06_Text.f (k + 1) a0) := by
  intro a0 k
  have ih0 := unicodetextref06_Text.mono_l k
  unfold unicodetextref06_Text.f
  repeat' first
      | (with_reducible exact ih0 _ _ _)
      | (with_reducible exact unicodetextref01_Hex.mono _ _)
      | (with_reducible exact unicodetextref06_Check.mono _ _)
      | (with_reducible exact LeO.refl _)
      | (with_reducible exact LeO.none _)
      | (with_reducible refine LeO.ite ?_ ?_)
      | (with_reducible refine LeO.bind ?_ (fun _ => ?_))
      | exact ih0 _ _ _
      | exact unicodetextref01_Hex.mono _ _
      | exact unicodetextref06_Check.mono _ _
      | exact LeO.none _
      | refine LeO.ite ?_ ?_
      | refine LeO.bind ?_ (fun _ => ?_)
set_option maxHeartbeats 8000000 in
set_option maxRecDepth 100000 in
theorem unicodetextref06_Text.calls (k : Nat) (A0_0 : Option Addr) (c0_0 : Nat) (l0_0 : List Int) (r1 : ByteArray) (r2 : Int) (w : World) (hr0_0 : Kd.C (Kd.int .i64) w A0_0 l0_0.length l0_0) (hc0_0 : l0_0.length ≤ c0_0) (h : unicodetextref06_Text.f k l0_0 = some (r1, r2)) :
    Calls Tryd.prog 18 #[.agg #[.slice A0_0 l0_0.length c0_0]] w fun e w' => e = .returned (.tuple #[.string r1, .int .i64 r2]) ∧ Below w.heap.size w w' := by
  have hu24 := Tryd.underlying24
  have HR0_0 := Aside0.mk hr0_0
  have HC0_0 := Aside0.mk hc0_0
  clear hr0_0 hc0_0
  have HB := Aside0.mk (Below.refl w.heap.size w)
  have H : ((unicodetextref06_Check.f k l0_0).bind fun t244 => (if t244 = 0 then (unicodetextref06_Text.l0 k (⟨#[]⟩ : ByteArray) 0 l0_0) else (some ((⟨#[]⟩ : ByteArray), t244)))) = some (r1, r2) := h
  clear h
  replace H := Option.bind_eq_some_iff.mp H
  obtain ⟨t244, A20, H⟩ := H
  replace H : (if t244 = 0 then (unicodetextref06_Text.l0 k (⟨#[]⟩ : ByteArray) 0 l0_0) else (some ((⟨#[]⟩ : ByteArray), t244))) = some (r1, r2) := H
  have A2 := Aside0.mk A20
  clear A20
  by_cases c3 : t244 = 0
  · rw [if_pos c3] at H
    have c3b0 : (t244 == 0) = true := beq_iff_eq.mpr c3
    have c3b1 : (t244 != 0) = false := bne_eq_false_iff_eq.mpr c3
    clear c3
    have H' := Aside0.mk H
    clear H
    go_enter Tryd.func18, Tryd.ntmps18
    go_wp2_with (first | ((with_reducible refine gate_dst (N := 1) rfl ?_); refine box_event ?hg (N := 1) ?hd (cs := #[.slice A0_0 l0_0.length c0_0]) (t := 24) ?hr ?_; (case hd => rfl); (case hg => rfl); (case hr => first | (go_simp; done) | (go_simp; rfl)); intro gb243 hg w4 hbox hb; have n0_ := Aside0.mk (below_step (by repeat (first | (with_reducible first | exact HB.out | apply below_alloc | apply pw_below_drewN | apply below_drew1) | exact HB.out)) hb); have n1_ := Aside0.mk (hbox); have n2_ := Aside0.mk ((by rw [hg]; exact (below_size (by repeat (first | (with_reducible first | exact HB.out | apply below_alloc | apply pw_below_drewN | apply below_drew1) | exact HB.out))) : w.heap.size ≤ gb243)); have n3_ := Aside0.mk ((by rw [hg]; exact (below_size (by repeat (first | (with_reducible first | exact HB.out | apply below_alloc | apply pw_below_drewN | apply below_drew1) | exact HB.out))) : w.heap.size ≤ gb243)); clear HB; have HB := n0_; have BK243 := n1_; have GW243 := n2_; have GE243 := n3_; clear n0_ n1_ n2_ n3_; clear hb hbox hg; have hcz5_0 : w4.cell? ⟨gb243, 0, none⟩ = some (.slice A0_0 l0_0.length c0_0) := (blk_cell BK243.out 0).trans rfl; have hfz5_0 := blk_frozen BK243.out 0) | (go_at_call 10; (with_reducible refine (unicodetextref06_Check.calls k _ _ l0_0 t244 _ ?side1 ?side2 A2.out).mono ?_); (case side1 => repeat (first | exact (Kd.C_below HR0_0.out HB.out) | (with_reducible refine Kd.C_alloc ?_ _) | (with_reducible refine Kd.C_drewN ?_ _) | (with_reducible refine Kd.C_drew ?_))); (case side2 => exact HC0_0.out); rintro e w6 ⟨rfl, hb⟩; have n0_ := Aside0.mk (blk_below (g := gb243) (o := .cells #[.slice A0_0 l0_0.length c0_0] 24 (0, 0)) (by (with_reducible repeat (first | refine blk_drewN ?_ _ | refine blk_drew ?_ | refine blk_alloc ?_ _)); exact BK243.out) hb); have n1_ := Aside0.mk (below_step (by repeat (first | (with_reducible first | exact HB.out | apply below_alloc | apply pw_below_drewN | apply below_drew1 | refine below_set ?_ GE243.out) | exact HB.out)) hb); clear BK243; clear HB; have BK243 := n0_; have HB := n1_; clear n0_ n1_; (try clear hb); (try clear hb2); (try clear hk); (try clear hi)))
    repeat (go_quiet (first | ((with_reducible refine gate_dst (N := 1) rfl ?_); refine box_event ?hg (N := 1) ?hd (cs := #[.slice A0_0 l0_0.length c0_0]) (t := 24) ?hr ?_; (case hd => rfl); (case hg => rfl); (case hr => first | (go_simp; done) | (go_simp; rfl)); intro gb243 hg w4 hbox hb; have n0_ := Aside0.mk (below_step (by repeat (first | (with_reducible first | exact HB.out | apply below_alloc | apply pw_below_drewN | apply below_drew1) | exact HB.out)) hb); have n1_ := Aside0.mk (hbox); have n2_ := Aside0.mk ((by rw [hg]; exact (below_size (by repeat (first | (with_reducible first | exact HB.out | apply below_alloc | apply pw_below_drewN | apply below_drew1) | exact HB.out))) : w.heap.size ≤ gb243)); have n3_ := Aside0.mk ((by rw [hg]; exact (below_size (by repeat (first | (with_reducible first | exact HB.out | apply below_alloc | apply pw_below_drewN | apply below_drew1) | exact HB.out))) : w.heap.size ≤ gb243)); clear HB; have HB := n0_; have BK243 := n1_; have GW243 := n2_; have GE243 := n3_; clear n0_ n1_ n2_ n3_; clear hb hbox hg; have hcz5_0 : w4.cell? ⟨gb243, 0, none⟩ = some (.slice A0_0 l0_0.length c0_0) := (blk_cell BK243.out 0).trans rfl; have hfz5_0 := blk_frozen BK243.out 0) | (go_at_call 10; (with_reducible refine (unicodetextref06_Check.calls k _ _ l0_0 t244 _ ?side1 ?side2 A2.out).mono ?_); (case side1 => repeat (first | exact (Kd.C_below HR0_0.out HB.out) | (with_reducible refine Kd.C_alloc ?_ _) | (with_reducible refine Kd.C_drewN ?_ _) | (with_reducible refine Kd.C_drew ?_))); (case side2 => exact HC0_0.out); rintro e w6 ⟨rfl, hb⟩; have n0_ := Aside0.mk (blk_below (g := gb243) (o := .cells #[.slice A0_0 l0_0.length c0_0] 24 (0, 0)) (by (with_reducible repeat (first | refine blk_drewN ?_ _ | refine blk_drew ?_ | refine blk_alloc ?_ _)); exact BK243.out) hb); have n1_ := Aside0.mk (below_step (by repeat (first | (with_reducible first | exact HB.out | apply below_alloc | apply pw_below_drewN | apply below_drew1 | refine below_set ?_ GE243.out) | exact HB.out)) hb); clear BK243; clear HB; have BK243 := n0_; have HB := n1_; clear n0_ n1_; (try clear hb); (try clear hb2); (try clear hk); (try clear hi))); try go_wp2_with (first | ((with_reducible refine gate_dst (N := 1) rfl ?_); refine box_event ?hg (N := 1) ?hd (cs := #[.slice A0_0 l0_0.length c0_0]) (t := 24) ?hr ?_; (case hd => rfl); (case hg => rfl); (case hr => first | (go_simp; done) | (go_simp; rfl)); intro gb243 hg w4 hbox hb; have n0_ := Aside0.mk (below_step (by repeat (first | (with_reducible first | exact HB.out | apply below_alloc | apply pw_below_drewN | apply below_drew1) | exact HB.out)) hb); have n1_ := Aside0.mk (hbox); have n2_ := Aside0.mk ((by rw [hg]; exact (below_size (by repeat (first | (with_reducible first | exact HB.out | apply below_alloc | apply pw_below_drewN | apply below_drew1) | exact HB.out))) : w.heap.size ≤ gb243)); have n3_ := Aside0.mk ((by rw [hg]; exact (below_size (by repeat (first | (with_reducible first | exact HB.out | apply below_alloc | apply pw_below_drewN | apply below_drew1) | exact HB.out))) : w.heap.size ≤ gb243)); clear HB; have HB := n0_; have BK243 := n1_; have GW243 := n2_; have GE243 := n3_; clear n0_ n1_ n2_ n3_; clear hb hbox hg; have hcz5_0 : w4.cell? ⟨gb243, 0, none⟩ = some (.slice A0_0 l0_0.length c0_0) := (blk_cell BK243.out 0).trans rfl; have hfz5_0 := blk_frozen BK243.out 0) | (go_at_call 10; (with_reducible refine (unicodetextref06_Check.calls k _ _ l0_0 t244 _ ?side1 ?side2 A2.out).mono ?_); (case side1 => repeat (first | exact (Kd.C_below HR0_0.out HB.out) | (with_reducible refine Kd.C_alloc ?_ _) | (with_reducible refine Kd.C_drewN ?_ _) | (with_reducible refine Kd.C_drew ?_))); (case side2 => exact HC0_0.out); rintro e w6 ⟨rfl, hb⟩; have n0_ := Aside0.mk (blk_below (g := gb243) (o := .cells #[.slice A0_0 l0_0.length c0_0] 24 (0, 0)) (by (with_reducible repeat (first | refine blk_drewN ?_ _ | refine blk_drew ?_ | refine blk_alloc ?_ _)); exact BK243.out) hb); have n1_ := Aside0.mk (below_step (by repeat (first | (with_reducible first | exact HB.out | apply below_alloc | apply pw_below_drewN | apply below_drew1 | refine below_set ?_ GE243.out) | exact HB.out)) hb); clear BK243; clear HB; have BK243 := n0_; have HB := n1_; clear n0_ n1_; (try clear hb); (try clear hb2); (try clear hk); (try clear hi))))
    go_loopg [5, 6] k (fun kq v5 v6 w' => ∃ (x5_1 : ByteArray) (x6_1 : Int), v5 = .string x5_1 ∧ v6 = .int .i64 x6_1 ∧ Aside0 (unicodetextref06_Text.l0 kq x5_1 x6_1 l0_0 = some (r1, r2)) ∧ Aside0 (kq ≤ k) ∧ Aside0 (w'.heap[gb243]? = some (.cells #[(.slice A0_0 l0_0.length c0_0)] 24 (0, 0))) ∧ Aside0 (Below w.heap.size w w'))
    case atStart => exact ⟨((⟨#[]⟩ : ByteArray)), (0), (by first | rfl | (simp; done) | (simp [*]; done)), (by first | rfl | (simp; done) | (simp [*]; done)), H', ⟨Nat.le_refl _⟩, ⟨by (with_reducible repeat (first | refine blk_drewN ?_ _ | refine blk_drew ?_ | refine blk_alloc ?_ _)); exact BK243.out⟩, ⟨by repeat (first | (with_reducible first | exact HB.out | apply below_alloc | apply pw_below_drewN | apply below_drew1 | refine below_set ?_ GE243.out) | exact HB.out)⟩⟩
    case round =>
      clear H'
      try clear c1
      try clear p2
      try clear c3
      try clear c3b0
      try clear c3b1
      try clear hcz5_0
      try clear hfz5_0
      obtain ⟨x5_1, x6_1, rfl, rfl, HA, HK1, BK243, HB⟩ := hrel
      cases gk with
      | zero => exact absurd HA.out (by simp [unicodetextref06_Text.l0])
      | succ k1 =>
        have H := HA.out
        clear HA
        simp only [unicodetextref06_Text.l0] at H
        by_cases c7 : x6_1 < 256
        · rw [if_pos c7] at H
          have c7b0 : decide (x6_1 < 256) = true := decide_eq_true c7
          clear c7
          by_cases c8 : 0 ≤ x6_1
          · rw [if_pos c8] at H
            have c8b0 : decide (0 ≤ x6_1) = true := decide_eq_true c8
            clear c8
            by_cases c9 : x6_1 < (l0_0.length : Int)
            · rw [if_pos c9] at H
              have c9b0 : decide (x6_1 < (l0_0.length : Int)) = true := decide_eq_true c9
              clear c9
              by_cases c10 : (rd l0_0 x6_1) ≥ 0
              · rw [if_pos c10] at H
                have c10b0 : decide (0 ≤ (rd l0_0 x6_1)) = true := decide_eq_true c10
                clear c10
                obtain ⟨ji11, hji11⟩ : ∃ j_ : Int, (wrap64 (Int.tdiv x6_1 16)) = j_ := ⟨_, rfl⟩
                replace H : (if 0 ≤ (ji11) then (if (ji11) ≤ (wrap64 ((ji11) + 1)) then (if (wrap64 ((ji11) + 1)) ≤ 16 then (if 0 ≤ (Int.tmod x6_1 16) then (if (Int.tmod x6_1 16) ≤ (wrap64 ((Int.tmod x6_1 16) + 1)) then (if (wrap64 ((Int.tmod x6_1 16) + 1)) ≤ 16 then (if ((⟨#[48, 49, 50, 51, 52, 53, 54, 55, 56, 57, 65, 66, 67, 68, 69, 70]⟩ : ByteArray).extract ((ji11) : Int).toNat ((wrap64 ((ji11) + 1)) : Int).toNat).size + ((⟨#[48, 49, 50, 51, 52, 53, 54, 55, 56, 57, 65, 66, 67, 68, 69, 70]⟩ : ByteArray).extract ((Int.tmod x6_1 16) : Int).toNat ((wrap64 ((Int.tmod x6_1 16) + 1)) : Int).toNat).size ≤ 9223372036854775807 then (if (((⟨#[48, 49, 50, 51, 52, 53, 54, 55, 56, 57, 65, 66, 67, 68, 69, 70]⟩ : ByteArray).extract ((ji11) : Int).toNat ((wrap64 ((ji11) + 1)) : Int).toNat) ++ ((⟨#[48, 49, 50, 51, 52, 53, 54, 55, 56, 57, 65, 66, 67, 68, 69, 70]⟩ : ByteArray).extract ((Int.tmod x6_1 16) : Int).toNat ((wrap64 ((Int.tmod x6_1 16) + 1)) : Int).toNat)).size + 1 ≤ 9223372036854775807 then ((unicodetextref01_Hex.f k1 (rd l0_0 x6_1)).bind fun t247 => (if ((((⟨#[48, 49, 50, 51, 52, 53, 54, 55, 56, 57, 65, 66, 67, 68, 69, 70]⟩ : ByteArray).extract ((ji11) : Int).toNat ((wrap64 ((ji11) + 1)) : Int).toNat) ++ ((⟨#[48, 49, 50, 51, 52, 53, 54, 55, 56, 57, 65, 66, 67, 68, 69, 70]⟩ : ByteArray).extract ((Int.tmod x6_1 16) : Int).toNat ((wrap64 ((Int.tmod x6_1 16) + 1)) : Int).toNat)) ++ (⟨#[32]⟩ : ByteArray)).size + t247.size ≤ 9223372036854775807 then (if (((((⟨#[48, 49, 50, 51, 52, 53, 54, 55, 56, 57, 65, 66, 67, 68, 69, 70]⟩ : ByteArray).extract ((ji11) : Int).toNat ((wrap64 ((ji11) + 1)) : Int).toNat) ++ ((⟨#[48, 49, 50, 51, 52, 53, 54, 55, 56, 57, 65, 66, 67, 68, 69, 70]⟩ : ByteArray).extract ((Int.tmod x6_1 16) : Int).toNat ((wrap64 ((Int.tmod x6_1 16) + 1)) : Int).toNat)) ++ (⟨#[32]⟩ : ByteArray)) ++ t247).size + 1 ≤ 9223372036854775807 then (if x5_1.size + ((((((⟨#[48, 49, 50, 51, 52, 53, 54, 55, 56, 57, 65, 66, 67, 68, 69, 70]⟩ : ByteArray).extract ((ji11) : Int).toNat ((wrap64 ((ji11) + 1)) : Int).toNat) ++ ((⟨#[48, 49, 50, 51, 52, 53, 54, 55, 56, 57, 65, 66, 67, 68, 69, 70]⟩ : ByteArray).extract ((Int.tmod x6_1 16) : Int).toNat ((wrap64 ((Int.tmod x6_1 16) + 1)) : Int).toNat)) ++ (⟨#[32]⟩ : ByteArray)) ++ t247) ++ (⟨#[10]⟩ : ByteArray)).size ≤ 9223372036854775807 then (unicodetextref06_Text.l0 k1 (x5_1 ++ ((((((⟨#[48, 49, 50, 51, 52, 53, 54, 55, 56, 57, 65, 66, 67, 68, 69, 70]⟩ : ByteArray).extract ((ji11) : Int).toNat ((wrap64 ((ji11) + 1)) : Int).toNat) ++ ((⟨#[48, 49, 50, 51, 52, 53, 54, 55, 56, 57, 65, 66, 67, 68, 69, 70]⟩ : ByteArray).extract ((Int.tmod x6_1 16) : Int).toNat ((wrap64 ((Int.tmod x6_1 16) + 1)) : Int).toNat)) ++ (⟨#[32]⟩ : ByteArray)) ++ t247) ++ (⟨#[10]⟩ : ByteArray))) (wrap64 (x6_1 + 1)) l0_0) else (none)) else (none)) else (none))) else (none)) else (none)) else (none)) else (none)) else (none)) else (none)) else (none)) else (none)) = some (r1, r2) := by first | (rw [hji11] at H; exact H) | (simp only [hji11] at H ⊢; exact H)
                have hji11w : (IntKind.i64.wrap (Int.tdiv x6_1 16)) = ji11 := (i64_w _).trans hji11
                by_cases c12 : 0 ≤ (ji11)
                · rw [if_pos c12] at H
                  have c12b0 := eq_true c12
                  have c12b1 : decide (0 ≤ (ji11)) = true := decide_eq_true c12
                  clear c12
                  by_cases c13 : (ji11) ≤ (wrap64 ((ji11) + 1))
                  · rw [if_pos c13] at H
                    have c13b0 := eq_true c13
                    have c13b1 : decide ((ji11) ≤ (wrap64 ((ji11) + 1))) = true := decide_eq_true c13
                    by_cases c14 : (wrap64 ((ji11) + 1)) ≤ 16
                    · rw [if_pos c14] at H
                      have c14b0 := eq_true c14
                      have c14b1 : decide ((wrap64 ((ji11) + 1)) ≤ 16) = true := decide_eq_true c14
                      obtain ⟨ji15, hji15⟩ : ∃ j_ : Int, (Int.tmod x6_1 16) = j_ := ⟨_, rfl⟩
                      replace H : (if 0 ≤ (ji15) then (if (ji15) ≤ (wrap64 ((ji15) + 1)) then (if (wrap64 ((ji15) + 1)) ≤ 16 then (if ((⟨#[48, 49, 50, 51, 52, 53, 54, 55, 56, 57, 65, 66, 67, 68, 69, 70]⟩ : ByteArray).extract ((ji11) : Int).toNat ((wrap64 ((ji11) + 1)) : Int).toNat).size + ((⟨#[48, 49, 50, 51, 52, 53, 54, 55, 56, 57, 65, 66, 67, 68, 69, 70]⟩ : ByteArray).extract ((ji15) : Int).toNat ((wrap64 ((ji15) + 1)) : Int).toNat).size ≤ 9223372036854775807 then (if (((⟨#[48, 49, 50, 51, 52, 53, 54, 55, 56, 57, 65, 66, 67, 68, 69, 70]⟩ : ByteArray).extract ((ji11) : Int).toNat ((wrap64 ((ji11) + 1)) : Int).toNat) ++ ((⟨#[48, 49, 50, 51, 52, 53, 54, 55, 56, 57, 65, 66, 67, 68, 69, 70]⟩ : ByteArray).extract ((ji15) : Int).toNat ((wrap64 ((ji15) + 1)) : Int).toNat)).size + 1 ≤ 9223372036854775807 then ((unicodetextref01_Hex.f k1 (rd l0_0 x6_1)).bind fun t247 => (if ((((⟨#[48, 49, 50, 51, 52, 53, 54, 55, 56, 57, 65, 66, 67, 68, 69, 70]⟩ : ByteArray).extract ((ji11) : Int).toNat ((wrap64 ((ji11) + 1)) : Int).toNat) ++ ((⟨#[48, 49, 50, 51, 52, 53, 54, 55, 56, 57, 65, 66, 67, 68, 69, 70]⟩ : ByteArray).extract ((ji15) : Int).toNat ((wrap64 ((ji15) + 1)) : Int).toNat)) ++ (⟨#[32]⟩ : ByteArray)).size + t247.size ≤ 9223372036854775807 then (if (((((⟨#[48, 49, 50, 51, 52, 53, 54, 55, 56, 57, 65, 66, 67, 68, 69, 70]⟩ : ByteArray).extract ((ji11) : Int).toNat ((wrap64 ((ji11) + 1)) : Int).toNat) ++ ((⟨#[48, 49, 50, 51, 52, 53, 54, 55, 56, 57, 65, 66, 67, 68, 69, 70]⟩ : ByteArray).extract ((ji15) : Int).toNat ((wrap64 ((ji15) + 1)) : Int).toNat)) ++ (⟨#[32]⟩ : ByteArray)) ++ t247).size + 1 ≤ 9223372036854775807 then (if x5_1.size + ((((((⟨#[48, 49, 50, 51, 52, 53, 54, 55, 56, 57, 65, 66, 67, 68, 69, 70]⟩ : ByteArray).extract ((ji11) : Int).toNat ((wrap64 ((ji11) + 1)) : Int).toNat) ++ ((⟨#[48, 49, 50, 51, 52, 53, 54, 55, 56, 57, 65, 66, 67, 68, 69, 70]⟩ : ByteArray).extract ((ji15) : Int).toNat ((wrap64 ((ji15) + 1)) : Int).toNat)) ++ (⟨#[32]⟩ : ByteArray)) ++ t247) ++ (⟨#[10]⟩ : ByteArray)).size ≤ 9223372036854775807 then (unicodetextref06_Text.l0 k1 (x5_1 ++ ((((((⟨#[48, 49, 50, 51, 52, 53, 54, 55, 56, 57, 65, 66, 67, 68, 69, 70]⟩ : ByteArray).extract ((ji11) : Int).toNat ((wrap64 ((ji11) + 1)) : Int).toNat) ++ ((⟨#[48, 49, 50, 51, 52, 53, 54, 55, 56, 57, 65, 66, 67, 68, 69, 70]⟩ : ByteArray).extract ((ji15) : Int).toNat ((wrap64 ((ji15) + 1)) : Int).toNat)) ++ (⟨#[32]⟩ : ByteArray)) ++ t247) ++ (⟨#[10]⟩ : ByteArray))) (wrap64 (x6_1 + 1)) l0_0) else (none)) else (none)) else (none))) else (none)) else (none)) else (none)) else (none)) else (none)) = some (r1, r2) := by first | (rw [hji15] at H; exact H) | (simp only [hji15] at H ⊢; exact H)
                      by_cases c16 : 0 ≤ (ji15)
                      · rw [if_pos c16] at H
                        have c16b0 := eq_true c16
                        have c16b1 : decide (0 ≤ (ji15)) = true := decide_eq_true c16
                        clear c16
                        by_cases c17 : (ji15) ≤ (wrap64 ((ji15) + 1))
                        · rw [if_pos c17] at H
                          have c17b0 := eq_true c17
                          have c17b1 : decide ((ji15) ≤ (wrap64 ((ji15) + 1))) = true := decide_eq_true c17
                          by_cases c18 : (wrap64 ((ji15) + 1)) ≤ 16
                          · rw [if_pos c18] at H
                            have c18b0 := eq_true c18
                            have c18b1 : decide ((wrap64 ((ji15) + 1)) ≤ 16) = true := decide_eq_true c18
                            by_cases c19 : ((⟨#[48, 49, 50, 51, 52, 53, 54, 55, 56, 57, 65, 66, 67, 68, 69, 70]⟩ : ByteArray).extract ((ji11) : Int).toNat ((wrap64 ((ji11) + 1)) : Int).toNat).size + ((⟨#[48, 49, 50, 51, 52, 53, 54, 55, 56, 57, 65, 66, 67, 68, 69, 70]⟩ : ByteArray).extract ((ji15) : Int).toNat ((wrap64 ((ji15) + 1)) : Int).toNat).size ≤ 9223372036854775807
                            · rw [if_pos c19] at H
                              have c19b0 := eq_true c19
                              have c19b1 : decide (((⟨#[48, 49, 50, 51, 52, 53, 54, 55, 56, 57, 65, 66, 67, 68, 69, 70]⟩ : ByteArray).extract ((ji11) : Int).toNat ((wrap64 ((ji11) + 1)) : Int).toNat).size + ((⟨#[48, 49, 50, 51, 52, 53, 54, 55, 56, 57, 65, 66, 67, 68, 69, 70]⟩ : ByteArray).extract ((ji15) : Int).toNat ((wrap64 ((ji15) + 1)) : Int).toNat).size ≤ 9223372036854775807) = true := decide_eq_true c19
                              try have c19b2 : (9223372036854775807 < ((⟨#[48, 49, 50, 51, 52, 53, 54, 55, 56, 57, 65, 66, 67, 68, 69, 70]⟩ : ByteArray).extract ((ji11) : Int).toNat ((wrap64 ((ji11) + 1)) : Int).toNat).size + ((⟨#[48, 49, 50, 51, 52, 53, 54, 55, 56, 57, 65, 66, 67, 68, 69, 70]⟩ : ByteArray).extract ((ji15) : Int).toNat ((wrap64 ((ji15) + 1)) : Int).toNat).size) = False := eq_false (Nat.not_lt.2 c19)
                              by_cases c20 : (((⟨#[48, 49, 50, 51, 52, 53, 54, 55, 56, 57, 65, 66, 67, 68, 69, 70]⟩ : ByteArray).extract ((ji11) : Int).toNat ((wrap64 ((ji11) + 1)) : Int).toNat) ++ ((⟨#[48, 49, 50, 51, 52, 53, 54, 55, 56, 57, 65, 66, 67, 68, 69, 70]⟩ : ByteArray).extract ((ji15) : Int).toNat ((wrap64 ((ji15) + 1)) : Int).toNat)).size + 1 ≤ 9223372036854775807
                              · rw [if_pos c20] at H
                                have c20b0 := eq_true c20
                                have c20b1 : decide ((((⟨#[48, 49, 50, 51, 52, 53, 54, 55, 56, 57, 65, 66, 67, 68, 69, 70]⟩ : ByteArray).extract ((ji11) : Int).toNat ((wrap64 ((ji11) + 1)) : Int).toNat) ++ ((⟨#[48, 49, 50, 51, 52, 53, 54, 55, 56, 57, 65, 66, 67, 68, 69, 70]⟩ : ByteArray).extract ((ji15) : Int).toNat ((wrap64 ((ji15) + 1)) : Int).toNat)).size + 1 ≤ 9223372036854775807) = true := decide_eq_true c20
                                try have c20b2 : (9223372036854775807 < (((⟨#[48, 49, 50, 51, 52, 53, 54, 55, 56, 57, 65, 66, 67, 68, 69, 70]⟩ : ByteArray).extract ((ji11) : Int).toNat ((wrap64 ((ji11) + 1)) : Int).toNat) ++ ((⟨#[48, 49, 50, 51, 52, 53, 54, 55, 56, 57, 65, 66, 67, 68, 69, 70]⟩ : ByteArray).extract ((ji15) : Int).toNat ((wrap64 ((ji15) + 1)) : Int).toNat)).size + 1) = False := eq_false (Nat.not_lt.2 c20)
                                replace H := Option.bind_eq_some_iff.mp H
                                obtain ⟨t247, A210, H⟩ := H
                                replace H : (if ((((⟨#[48, 49, 50, 51, 52, 53, 54, 55, 56, 57, 65, 66, 67, 68, 69, 70]⟩ : ByteArray).extract ((ji11) : Int).toNat ((wrap64 ((ji11) + 1)) : Int).toNat) ++ ((⟨#[48, 49, 50, 51, 52, 53, 54, 55, 56, 57, 65, 66, 67, 68, 69, 70]⟩ : ByteArray).extract ((ji15) : Int).toNat ((wrap64 ((ji15) + 1)) : Int).toNat)) ++ (⟨#[32]⟩ : ByteArray)).size + t247.size ≤ 9223372036854775807 then (if (((((⟨#[48, 49, 50, 51, 52, 53, 54, 55, 56, 57, 65, 66, 67, 68, 69, 70]⟩ : ByteArray).extract ((ji11) : Int).toNat ((wrap64 ((ji11) + 1)) : Int).toNat) ++ ((⟨#[48, 49, 50, 51, 52, 53, 54, 55, 56, 57, 65, 66, 67, 68, 69, 70]⟩ : ByteArray).extract ((ji15) : Int).toNat ((wrap64 ((ji15) + 1)) : Int).toNat)) ++ (⟨#[32]⟩ : ByteArray)) ++ t247).size + 1 ≤ 9223372036854775807 then (if x5_1.size + ((((((⟨#[48, 49, 50, 51, 52, 53, 54, 55, 56, 57, 65, 66, 67, 68, 69, 70]⟩ : ByteArray).extract ((ji11) : Int).toNat ((wrap64 ((ji11) + 1)) : Int).toNat) ++ ((⟨#[48, 49, 50, 51, 52, 53, 54, 55, 56, 57, 65, 66, 67, 68, 69, 70]⟩ : ByteArray).extract ((ji15) : Int).toNat ((wrap64 ((ji15) + 1)) : Int).toNat)) ++ (⟨#[32]⟩ : ByteArray)) ++ t247) ++ (⟨#[10]⟩ : ByteArray)).size ≤ 9223372036854775807 then (unicodetextref06_Text.l0 k1 (x5_1 ++ ((((((⟨#[48, 49, 50, 51, 52, 53, 54, 55, 56, 57, 65, 66, 67, 68, 69, 70]⟩ : ByteArray).extract ((ji11) : Int).toNat ((wrap64 ((ji11) + 1)) : Int).toNat) ++ ((⟨#[48, 49, 50, 51, 52, 53, 54, 55, 56, 57, 65, 66, 67, 68, 69, 70]⟩ : ByteArray).extract ((ji15) : Int).toNat ((wrap64 ((ji15) + 1)) : Int).toNat)) ++ (⟨#[32]⟩ : ByteArray)) ++ t247) ++ (⟨#[10]⟩ : ByteArray))) (wrap64 (x6_1 + 1)) l0_0) else (none)) else (none)) else (none)) = some (r1, r2) := H
                                have A21 := Aside0.mk A210
                                clear A210
                                by_cases c22 : ((((⟨#[48, 49, 50, 51, 52, 53, 54, 55, 56, 57, 65, 66, 67, 68, 69, 70]⟩ : ByteArray).extract ((ji11) : Int).toNat ((wrap64 ((ji11) + 1)) : Int).toNat) ++ ((⟨#[48, 49, 50, 51, 52, 53, 54, 55, 56, 57, 65, 66, 67, 68, 69, 70]⟩ : ByteArray).extract ((ji15) : Int).toNat ((wrap64 ((ji15) + 1)) : Int).toNat)) ++ (⟨#[32]⟩ : ByteArray)).size + t247.size ≤ 9223372036854775807
                                · rw [if_pos c22] at H
                                  have c22b0 := eq_true c22
                                  have c22b1 : decide (((((⟨#[48, 49, 50, 51, 52, 53, 54, 55, 56, 57, 65, 66, 67, 68, 69, 70]⟩ : ByteArray).extract ((ji11) : Int).toNat ((wrap64 ((ji11) + 1)) : Int).toNat) ++ ((⟨#[48, 49, 50, 51, 52, 53, 54, 55, 56, 57, 65, 66, 67, 68, 69, 70]⟩ : ByteArray).extract ((ji15) : Int).toNat ((wrap64 ((ji15) + 1)) : Int).toNat)) ++ (⟨#[32]⟩ : ByteArray)).size + t247.size ≤ 9223372036854775807) = true := decide_eq_true c22
                                  try have c22b2 : (9223372036854775807 < ((((⟨#[48, 49, 50, 51, 52, 53, 54, 55, 56, 57, 65, 66, 67, 68, 69, 70]⟩ : ByteArray).extract ((ji11) : Int).toNat ((wrap64 ((ji11) + 1)) : Int).toNat) ++ ((⟨#[48, 49, 50, 51, 52, 53, 54, 55, 56, 57, 65, 66, 67, 68, 69, 70]⟩ : ByteArray).extract ((ji15) : Int).toNat ((wrap64 ((ji15) + 1)) : Int).toNat)) ++ (⟨#[32]⟩ : ByteArray)).size + t247.size) = False := eq_false (Nat.not_lt.2 c22)
                                  by_cases c23 : (((((⟨#[48, 49, 50, 51, 52, 53, 54, 55, 56, 57, 65, 66, 67, 68, 69, 70]⟩ : ByteArray).extract ((ji11) : Int).toNat ((wrap64 ((ji11) + 1)) : Int).toNat) ++ ((⟨#[48, 49, 50, 51, 52, 53, 54, 55, 56, 57, 65, 66, 67, 68, 69, 70]⟩ : ByteArray).extract ((ji15) : Int).toNat ((wrap64 ((ji15) + 1)) : Int).toNat)) ++ (⟨#[32]⟩ : ByteArray)) ++ t247).size + 1 ≤ 9223372036854775807
                                  · rw [if_pos c23] at H
                                    have c23b0 := eq_true c23
                                    have c23b1 : decide ((((((⟨#[48, 49, 50, 51, 52, 53, 54, 55, 56, 57, 65, 66, 67, 68, 69, 70]⟩ : ByteArray).extract ((ji11) : Int).toNat ((wrap64 ((ji11) + 1)) : Int).toNat) ++ ((⟨#[48, 49, 50, 51, 52, 53, 54, 55, 56, 57, 65, 66, 67, 68, 69, 70]⟩ : ByteArray).extract ((ji15) : Int).toNat ((wrap64 ((ji15) + 1)) : Int).toNat)) ++ (⟨#[32]⟩ : ByteArray)) ++ t247).size + 1 ≤ 9223372036854775807) = true := decide_eq_true c23
                                    try have c23b2 : (9223372036854775807 < (((((⟨#[48, 49, 50, 51, 52, 53, 54, 55, 56, 57, 65, 66, 67, 68, 69, 70]⟩ : ByteArray).extract ((ji11) : Int).toNat ((wrap64 ((ji11) + 1)) : Int).toNat) ++ ((⟨#[48, 49, 50, 51, 52, 53, 54, 55, 56, 57, 65, 66, 67, 68, 69, 70]⟩ : ByteArray).extract ((ji15) : Int).toNat ((wrap64 ((ji15) + 1)) : Int).toNat)) ++ (⟨#[32]⟩ : ByteArray)) ++ t247).size + 1) = False := eq_false (Nat.not_lt.2 c23)
                                    by_cases c24 : x5_1.size + ((((((⟨#[48, 49, 50, 51, 52, 53, 54, 55, 56, 57, 65, 66, 67, 68, 69, 70]⟩ : ByteArray).extract ((ji11) : Int).toNat ((wrap64 ((ji11) + 1)) : Int).toNat) ++ ((⟨#[48, 49, 50, 51, 52, 53, 54, 55, 56, 57, 65, 66, 67, 68, 69, 70]⟩ : ByteArray).extract ((ji15) : Int).toNat ((wrap64 ((ji15) + 1)) : Int).toNat)) ++ (⟨#[32]⟩ : ByteArray)) ++ t247) ++ (⟨#[10]⟩ : ByteArray)).size ≤ 9223372036854775807
                                    · rw [if_pos c24] at H
                                      have c24b0 := eq_true c24
                                      have c24b1 : decide (x5_1.size + ((((((⟨#[48, 49, 50, 51, 52, 53, 54, 55, 56, 57, 65, 66, 67, 68, 69, 70]⟩ : ByteArray).extract ((ji11) : Int).toNat ((wrap64 ((ji11) + 1)) : Int).toNat) ++ ((⟨#[48, 49, 50, 51, 52, 53, 54, 55, 56, 57, 65, 66, 67, 68, 69, 70]⟩ : ByteArray).extract ((ji15) : Int).toNat ((wrap64 ((ji15) + 1)) : Int).toNat)) ++ (⟨#[32]⟩ : ByteArray)) ++ t247) ++ (⟨#[10]⟩ : ByteArray)).size ≤ 9223372036854775807) = true := decide_eq_true c24
                                      try have c24b2 : (9223372036854775807 < x5_1.size + ((((((⟨#[48, 49, 50, 51, 52, 53, 54, 55, 56, 57, 65, 66, 67, 68, 69, 70]⟩ : ByteArray).extract ((ji11) : Int).toNat ((wrap64 ((ji11) + 1)) : Int).toNat) ++ ((⟨#[48, 49, 50, 51, 52, 53, 54, 55, 56, 57, 65, 66, 67, 68, 69, 70]⟩ : ByteArray).extract ((ji15) : Int).toNat ((wrap64 ((ji15) + 1)) : Int).toNat)) ++ (⟨#[32]⟩ : ByteArray)) ++ t247) ++ (⟨#[10]⟩ : ByteArray)).size) = False := eq_false (Nat.not_lt.2 c24)
                                      have z1 : (((⟨#[48, 49, 50, 51, 52, 53, 54, 55, 56, 57, 65, 66, 67, 68, 69, 70]⟩ : ByteArray).extract ((ji11) : Int).toNat ((wrap64 ((ji11) + 1)) : Int).toNat) ++ ((⟨#[48, 49, 50, 51, 52, 53, 54, 55, 56, 57, 65, 66, 67, 68, 69, 70]⟩ : ByteArray).extract ((ji15) : Int).toNat ((wrap64 ((ji15) + 1)) : Int).toNat)).size + (⟨#[32]⟩ : ByteArray).size ≤ 9223372036854775807 := c20
                                      have z2 : (((((⟨#[48, 49, 50, 51, 52, 53, 54, 55, 56, 57, 65, 66, 67, 68, 69, 70]⟩ : ByteArray).extract ((ji11) : Int).toNat ((wrap64 ((ji11) + 1)) : Int).toNat) ++ ((⟨#[48, 49, 50, 51, 52, 53, 54, 55, 56, 57, 65, 66, 67, 68, 69, 70]⟩ : ByteArray).extract ((ji15) : Int).toNat ((wrap64 ((ji15) + 1)) : Int).toNat)) ++ (⟨#[32]⟩ : ByteArray)) ++ t247).size + (⟨#[10]⟩ : ByteArray).size ≤ 9223372036854775807 := c23
                                      have H' := Aside0.mk H
                                      clear H
                                      have hcz25_0 : wr.cell? ⟨gb243, 0, none⟩ = some (.slice A0_0 l0_0.length c0_0) := (blk_cell BK243.out 0).trans rfl
                                      have hfz25_0 := blk_frozen BK243.out 0
                                      have p245 : 0 ≤ (x6_1 : Int) := of_decide_eq_true (by first | (with_reducible assumption) | assumption)
                                      have q245 : x6_1 < (l0_0.length : Int) := of_decide_eq_true (by first | (with_reducible assumption) | assumption)
                                      obtain ⟨ad245, e245, hx245_0⟩ := Kd.at_int HR0_0.out x6_1 p245 q245
                                      cases e245
                                      replace hx245_0 := (HB.out.cell (World.block_lt_of_cell? w _ hx245_0)).trans hx245_0
                                      replace p245 := eq_true p245
                                      replace q245 := eq_true q245
                                      have p246 : 0 ≤ (x6_1 : Int) := of_decide_eq_true (by first | (with_reducible assumption) | assumption)
                                      have q246 : x6_1 < (l0_0.length : Int) := of_decide_eq_true (by first | (with_reducible assumption) | assumption)
                                      obtain ⟨ad246, e246, hx246_0⟩ := Kd.at_int HR0_0.out x6_1 p246 q246
                                      obtain rfl : ad245 = ad246 := (by injection e246)
                                      replace hx246_0 := (HB.out.cell (World.block_lt_of_cell? w _ hx246_0)).trans hx246_0
                                      replace p246 := eq_true p246
                                      replace q246 := eq_true q246
                                      go_wp2_with (first | (go_at_call 39; (with_reducible refine (unicodetextref01_Hex.calls k1 (rd l0_0 x6_1) t247 _ A21.out).mono ?_); rintro e w' ⟨rfl, ⟨nd, rfl⟩⟩; (try first | exact ⟨rfl, _, World.drewN_drewN _ _ _⟩ | exact ⟨rfl, _, Eq.trans (World.drewN_drewN _ _ _) (congrArg (World.drewN _) (Nat.add_assoc _ _ _))⟩)))
                                      repeat (go_quiet (first | (go_at_call 39; (with_reducible refine (unicodetextref01_Hex.calls k1 (rd l0_0 x6_1) t247 _ A21.out).mono ?_); rintro e w' ⟨rfl, ⟨nd, rfl⟩⟩; (try first | exact ⟨rfl, _, World.drewN_drewN _ _ _⟩ | exact ⟨rfl, _, Eq.trans (World.drewN_drewN _ _ _) (congrArg (World.drewN _) (Nat.add_assoc _ _ _))⟩))); try go_wp2_with (first | (go_at_call 39; (with_reducible refine (unicodetextref01_Hex.calls k1 (rd l0_0 x6_1) t247 _ A21.out).mono ?_); rintro e w' ⟨rfl, ⟨nd, rfl⟩⟩; (try first | exact ⟨rfl, _, World.drewN_drewN _ _ _⟩ | exact ⟨rfl, _, Eq.trans (World.drewN_drewN _ _ _) (congrArg (World.drewN _) (Nat.add_assoc _ _ _))⟩))))
                                      go_roundg k1
                                      case measure => have := HK1.out; omega
                                      case rel => exact ⟨(x5_1 ++ ((((((⟨#[48, 49, 50, 51, 52, 53, 54, 55, 56, 57, 65, 66, 67, 68, 69, 70]⟩ : ByteArray).extract ((ji11) : Int).toNat ((wrap64 ((ji11) + 1)) : Int).toNat) ++ ((⟨#[48, 49, 50, 51, 52, 53, 54, 55, 56, 57, 65, 66, 67, 68, 69, 70]⟩ : ByteArray).extract ((ji15) : Int).toNat ((wrap64 ((ji15) + 1)) : Int).toNat)) ++ (⟨#[32]⟩ : ByteArray)) ++ t247) ++ (⟨#[10]⟩ : ByteArray))), (wrap64 (x6_1 + 1)), (by first | rfl | (simp; done) | (simp only [← hji11, ← hji15] <;> (first | rfl | simp)) | (simp [*]; done)), (by first | rfl | (simp; done) | (simp [*]; done)), H', ⟨by have := HK1.out; omega⟩, ⟨by (with_reducible repeat (first | refine blk_drewN ?_ _ | refine blk_drew ?_ | refine blk_alloc ?_ _)); exact BK243.out⟩, ⟨by repeat (first | (with_reducible first | exact HB.out | apply below_alloc | apply pw_below_drewN | apply below_drew1 | refine below_set ?_ GE243.out) | exact HB.out)⟩⟩
                                    · rw [if_neg c24] at H
                                      exact absurd H (by simp)
                                  · rw [if_neg c23] at H
                                    exact absurd H (by simp)
                                · rw [if_neg c22] at H
                                  exact absurd H (by simp)
                              · rw [if_neg c20] at H
                                exact absurd H (by simp)
                            · rw [if_neg c19] at H
                              exact absurd H (by simp)
                          · rw [if_neg c18] at H
                            exact absurd H (by simp)
                        · rw [if_neg c17] at H
                          exact absurd H (by simp)
                      · rw [if_neg c16] at H
                        exact absurd H (by simp)
                    · rw [if_neg c14] at H
                      exact absurd H (by simp)
                  · rw [if_neg c13] at H
                    exact absurd H (by simp)
                · rw [if_neg c12] at H
                  exact absurd H (by simp)
              · rw [if_neg c10] at H
                have c10b0 : decide (0 ≤ (rd l0_0 x6_1)) = false := decide_eq_false c10
                clear c10
                have H' := Aside0.mk H
                clear H
                have hcz26_0 : wr.cell? ⟨gb243, 0, none⟩ = some (.slice A0_0 l0_0.length c0_0) := (blk_cell BK243.out 0).trans rfl
                have hfz26_0 := blk_frozen BK243.out 0
                have p245 : 0 ≤ (x6_1 : Int) := of_decide_eq_true (by first | (with_reducible assumption) | assumption)
                have q245 : x6_1 < (l0_0.length : Int) := of_decide_eq_true (by first | (with_reducible assumption) | assumption)
                obtain ⟨ad245, e245, hx245_0⟩ := Kd.at_int HR0_0.out x6_1 p245 q245
                cases e245
                replace hx245_0 := (HB.out.cell (World.block_lt_of_cell? w _ hx245_0)).trans hx245_0
                replace p245 := eq_true p245
                replace q245 := eq_true q245
                go_wp2
                repeat (go_quiet (fail); try go_wp2)
                go_roundg k1
                case measure => have := HK1.out; omega
                case rel => exact ⟨(x5_1), (wrap64 (x6_1 + 1)), (by first | rfl | (simp; done) | (simp [*]; done)), (by first | rfl | (simp; done) | (simp [*]; done)), H', ⟨by have := HK1.out; omega⟩, ⟨by (with_reducible repeat (first | refine blk_drewN ?_ _ | refine blk_drew ?_ | refine blk_alloc ?_ _)); exact BK243.out⟩, ⟨by repeat (first | (with_reducible first | exact HB.out | apply below_alloc | apply pw_below_drewN | apply below_drew1 | refine below_set ?_ GE243.out) | exact HB.out)⟩⟩
            · rw [if_neg c9] at H
              exact absurd H (by simp)
          · rw [if_neg c8] at H
            exact absurd H (by simp)
        · rw [if_neg c7] at H
          have c7b0 : decide (x6_1 < 256) = false := decide_eq_false c7
          clear c7
          simp only [Option.some.injEq, Prod.mk.injEq] at H
          obtain ⟨rfl, rfl⟩ := H
          go_wp2
          repeat (go_quiet (fail); try go_wp2)
          go_ret2
          exact ⟨by first | rfl | (simp [errW_none, errW_some] <;> rfl) | (simp [*, errW_none, errW_some] <;> rfl), by repeat (first | (with_reducible first | exact HB.out | apply below_alloc | apply pw_below_drewN | apply below_drew1 | refine below_set ?_ GE243.out) | exact HB.out)⟩
  · rw [if_neg c3] at H
    have c3b0 : (t244 == 0) = false := beq_eq_false_iff_ne.mpr c3
    have c3b1 : (t244 != 0) = true := bne_iff_ne.mpr c3
    simp only [Option.some.injEq, Prod.mk.injEq] at H
    obtain ⟨rfl, rfl⟩ := H
    go_enter Tryd.func18, Tryd.ntmps18
    go_wp2_with (first | ((with_reducible refine gate_dst (N := 1) rfl ?_); refine box_event ?hg (N := 1) ?hd (cs := #[.slice A0_0 l0_0.length c0_0]) (t := 24) ?hr ?_; (case hd => rfl); (case hg => rfl); (case hr => first | (go_simp; done) | (go_simp; rfl)); intro gb243 hg w27 hbox hb; have n0_ := Aside0.mk (below_step (by repeat (first | (with_reducible first | exact HB.out | apply below_alloc | apply pw_below_drewN | apply below_drew1) | exact HB.out)) hb); have n1_ := Aside0.mk (hbox); have n2_ := Aside0.mk ((by rw [hg]; exact (below_size (by repeat (first | (with_reducible first | exact HB.out | apply below_alloc | apply pw_below_drewN | apply below_drew1) | exact HB.out))) : w.heap.size ≤ gb243)); have n3_ := Aside0.mk ((by rw [hg]; exact (below_size (by repeat (first | (with_reducible first | exact HB.out | apply below_alloc | apply pw_below_drewN | apply below_drew1) | exact HB.out))) : w.heap.size ≤ gb243)); clear HB; have HB := n0_; have BK243 := n1_; have GW243 := n2_; have GE243 := n3_; clear n0_ n1_ n2_ n3_; clear hb hbox hg; have hcz28_0 : w27.cell? ⟨gb243, 0, none⟩ = some (.slice A0_0 l0_0.length c0_0) := (blk_cell BK243.out 0).trans rfl; have hfz28_0 := blk_frozen BK243.out 0) | (go_at_call 10; (with_reducible refine (unicodetextref06_Check.calls k _ _ l0_0 t244 _ ?side1 ?side2 A2.out).mono ?_); (case side1 => repeat (first | exact (Kd.C_below HR0_0.out HB.out) | (with_reducible refine Kd.C_alloc ?_ _) | (with_reducible refine Kd.C_drewN ?_ _) | (with_reducible refine Kd.C_drew ?_))); (case side2 => exact HC0_0.out); rintro e w29 ⟨rfl, hb⟩; have n0_ := Aside0.mk (blk_below (g := gb243) (o := .cells #[.slice A0_0 l0_0.length c0_0] 24 (0, 0)) (by (with_reducible repeat (first | refine blk_drewN ?_ _ | refine blk_drew ?_ | refine blk_alloc ?_ _)); exact BK243.out) hb); have n1_ := Aside0.mk (below_step (by repeat (first | (with_reducible first | exact HB.out | apply below_alloc | apply pw_below_drewN | apply below_drew1 | refine below_set ?_ GE243.out) | exact HB.out)) hb); clear BK243; clear HB; have BK243 := n0_; have HB := n1_; clear n0_ n1_; (try clear hb); (try clear hb2); (try clear hk); (try clear hi)))
    repeat (go_quiet (first | ((with_reducible refine gate_dst (N := 1) rfl ?_); refine box_event ?hg (N := 1) ?hd (cs := #[.slice A0_0 l0_0.length c0_0]) (t := 24) ?hr ?_; (case hd => rfl); (case hg => rfl); (case hr => first | (go_simp; done) | (go_simp; rfl)); intro gb243 hg w27 hbox hb; have n0_ := Aside0.mk (below_step (by repeat (first | (with_reducible first | exact HB.out | apply below_alloc | apply pw_below_drewN | apply below_drew1) | exact HB.out)) hb); have n1_ := Aside0.mk (hbox); have n2_ := Aside0.mk ((by rw [hg]; exact (below_size (by repeat (first | (with_reducible first | exact HB.out | apply below_alloc | apply pw_below_drewN | apply below_drew1) | exact HB.out))) : w.heap.size ≤ gb243)); have n3_ := Aside0.mk ((by rw [hg]; exact (below_size (by repeat (first | (with_reducible first | exact HB.out | apply below_alloc | apply pw_below_drewN | apply below_drew1) | exact HB.out))) : w.heap.size ≤ gb243)); clear HB; have HB := n0_; have BK243 := n1_; have GW243 := n2_; have GE243 := n3_; clear n0_ n1_ n2_ n3_; clear hb hbox hg; have hcz28_0 : w27.cell? ⟨gb243, 0, none⟩ = some (.slice A0_0 l0_0.length c0_0) := (blk_cell BK243.out 0).trans rfl; have hfz28_0 := blk_frozen BK243.out 0) | (go_at_call 10; (with_reducible refine (unicodetextref06_Check.calls k _ _ l0_0 t244 _ ?side1 ?side2 A2.out).mono ?_); (case side1 => repeat (first | exact (Kd.C_below HR0_0.out HB.out) | (with_reducible refine Kd.C_alloc ?_ _) | (with_reducible refine Kd.C_drewN ?_ _) | (with_reducible refine Kd.C_drew ?_))); (case side2 => exact HC0_0.out); rintro e w29 ⟨rfl, hb⟩; have n0_ := Aside0.mk (blk_below (g := gb243) (o := .cells #[.slice A0_0 l0_0.length c0_0] 24 (0, 0)) (by (with_reducible repeat (first | refine blk_drewN ?_ _ | refine blk_drew ?_ | refine blk_alloc ?_ _)); exact BK243.out) hb); have n1_ := Aside0.mk (below_step (by repeat (first | (with_reducible first | exact HB.out | apply below_alloc | apply pw_below_drewN | apply below_drew1 | refine below_set ?_ GE243.out) | exact HB.out)) hb); clear BK243; clear HB; have BK243 := n0_; have HB := n1_; clear n0_ n1_; (try clear hb); (try clear hb2); (try clear hk); (try clear hi))); try go_wp2_with (first | ((with_reducible refine gate_dst (N := 1) rfl ?_); refine box_event ?hg (N := 1) ?hd (cs := #[.slice A0_0 l0_0.length c0_0]) (t := 24) ?hr ?_; (case hd => rfl); (case hg => rfl); (case hr => first | (go_simp; done) | (go_simp; rfl)); intro gb243 hg w27 hbox hb; have n0_ := Aside0.mk (below_step (by repeat (first | (with_reducible first | exact HB.out | apply below_alloc | apply pw_below_drewN | apply below_drew1) | exact HB.out)) hb); have n1_ := Aside0.mk (hbox); have n2_ := Aside0.mk ((by rw [hg]; exact (below_size (by repeat (first | (with_reducible first | exact HB.out | apply below_alloc | apply pw_below_drewN | apply below_drew1) | exact HB.out))) : w.heap.size ≤ gb243)); have n3_ := Aside0.mk ((by rw [hg]; exact (below_size (by repeat (first | (with_reducible first | exact HB.out | apply below_alloc | apply pw_below_drewN | apply below_drew1) | exact HB.out))) : w.heap.size ≤ gb243)); clear HB; have HB := n0_; have BK243 := n1_; have GW243 := n2_; have GE243 := n3_; clear n0_ n1_ n2_ n3_; clear hb hbox hg; have hcz28_0 : w27.cell? ⟨gb243, 0, none⟩ = some (.slice A0_0 l0_0.length c0_0) := (blk_cell BK243.out 0).trans rfl; have hfz28_0 := blk_frozen BK243.out 0) | (go_at_call 10; (with_reducible refine (unicodetextref06_Check.calls k _ _ l0_0 t244 _ ?side1 ?side2 A2.out).mono ?_); (case side1 => repeat (first | exact (Kd.C_below HR0_0.out HB.out) | (with_reducible refine Kd.C_alloc ?_ _) | (with_reducible refine Kd.C_drewN ?_ _) | (with_reducible refine Kd.C_drew ?_))); (case side2 => exact HC0_0.out); rintro e w29 ⟨rfl, hb⟩; have n0_ := Aside0.mk (blk_below (g := gb243) (o := .cells #[.slice A0_0 l0_0.length c0_0] 24 (0, 0)) (by (with_reducible repeat (first | refine blk_drewN ?_ _ | refine blk_drew ?_ | refine blk_alloc ?_ _)); exact BK243.out) hb); have n1_ := Aside0.mk (below_step (by repeat (first | (with_reducible first | exact HB.out | apply below_alloc | apply pw_below_drewN | apply below_drew1 | refine below_set ?_ GE243.out) | exact HB.out)) hb); clear BK243; clear HB; have BK243 := n0_; have HB := n1_; clear n0_ n1_; (try clear hb); (try clear hb2); (try clear hk); (try clear hi))))
    go_ret2
    exact ⟨by first | rfl | (simp [errW_none, errW_some] <;> rfl) | (simp [*, errW_none, errW_some] <;> rfl), by repeat (first | (with_reducible first | exact HB.out | apply below_alloc | apply pw_below_drewN | apply below_drew1 | refine below_set ?_ GE243.out) | exact HB.out)⟩

end Go.Proofs.YtlgoagkgmndchaaDoor.PA

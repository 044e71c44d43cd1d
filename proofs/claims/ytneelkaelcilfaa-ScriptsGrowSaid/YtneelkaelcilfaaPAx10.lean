-- Laid by hprint.py (this session's program, over the kit's print) for the seat Ytneelkaelcilfaa. Lean checks it.
import Derived.Test.YtneelkaelcilfaaPAx0
import Derived.Test.YtneelkaelcilfaaPAx2
import Derived.Test.YtneelkaelcilfaaPAx5
import Derived.Test.YtneelkaelcilfaaPAx6
import Derived.Test.YtneelkaelcilfaaPAx7
import Derived.Test.YtneelkaelcilfaaPAx8
import Derived.Test.YtneelkaelcilfaaPAx9
namespace Go.Proofs.Ytneelkaelcilfaa.PA
open Go.RowKit Go.Proofs.YtneelkaelcilfaaW.PrintWords Go.Proofs.YtneelkaelcilfaaW.PrintLast Go.Proofs.YtneelkaelcilfaaW.PrintMore
attribute [local go_sem] max2_int min2_int max_two min_two max_three min_three max_four min_four   -- for this text's walks alone
set_option linter.unusedVariables false
set_option linter.unusedSimpArgs false

/-! ### scripts_runs_string: function 29 -/
def scripts_runs_string.l0 : Nat → List ByteArray → List (S38) → Int → Int → Option ((List (S38)))
  | 0, _, _, _, _ => none
  | k + 1, x0, x3, x6, x7 => if x7 < x6 then (if x7 = 0 then (if x3.length < 8796093022208 then ((some (x3 ++ [(⟨x7, 0⟩ : S38)] : List (S38))).bind fun y239 => (if 0 ≤ (wrap64 ((y239.length : Int) - 1)) then (if (wrap64 ((y239.length : Int) - 1)) < (y239.length : Int) then (scripts_runs_string.l0 k x0 (y239.set ((wrap64 ((y239.length : Int) - 1)) : Int).toNat (⟨(rd_T38 y239 (wrap64 ((y239.length : Int) - 1))).f0, wrap64 (x7 + 1)⟩ : S38)) x6 (wrap64 (x7 + 1))) else (none)) else (none))) else (none)) else (if 0 ≤ x7 then (if x7 < (x0.length : Int) then (if 0 ≤ (wrap64 (x7 - 1)) then (if (wrap64 (x7 - 1)) < (x0.length : Int) then (if (rdOf ByteArray.empty x0 x7).toList = (rdOf ByteArray.empty x0 (wrap64 (x7 - 1))).toList then (if 0 ≤ (wrap64 ((x3.length : Int) - 1)) then (if (wrap64 ((x3.length : Int) - 1)) < (x3.length : Int) then (scripts_runs_string.l0 k x0 (x3.set ((wrap64 ((x3.length : Int) - 1)) : Int).toNat (⟨(rd_T38 x3 (wrap64 ((x3.length : Int) - 1))).f0, wrap64 (x7 + 1)⟩ : S38)) x6 (wrap64 (x7 + 1))) else (none)) else (none)) else (if x3.length < 8796093022208 then ((some (x3 ++ [(⟨x7, 0⟩ : S38)] : List (S38))).bind fun y246 => (if 0 ≤ (wrap64 ((y246.length : Int) - 1)) then (if (wrap64 ((y246.length : Int) - 1)) < (y246.length : Int) then (scripts_runs_string.l0 k x0 (y246.set ((wrap64 ((y246.length : Int) - 1)) : Int).toNat (⟨(rd_T38 y246 (wrap64 ((y246.length : Int) - 1))).f0, wrap64 (x7 + 1)⟩ : S38)) x6 (wrap64 (x7 + 1))) else (none)) else (none))) else (none))) else (none)) else (none)) else (none)) else (none))) else (some x3)
def scripts_runs_string.f (k : Nat) (l0 : List ByteArray) : Option ((List (S38))) := scripts_runs_string.l0 k l0 ([] : List (S38)) (l0.length : Int) 0
theorem scripts_runs_string.mono_l : ∀ k, (∀ y0 y1 y2 y3, LeO (scripts_runs_string.l0 k y0 y1 y2 y3) (scripts_runs_string.l0 (k + 1) y0 y1 y2 y3))
  | 0 => fun _ _ _ _ r h => by simp [scripts_runs_string.l0] at h
  | k + 1 => by
    have ih0 := scripts_runs_string.mono_l k
    · intro y0 y1 y2 y3
      unfold scripts_runs_string.l0
      repeat' first
      | (with_reducible exact ih0 _ _ _ _)
      | (with_reducible exact LeO.refl _)
      | (with_reducible exact LeO.none _)
      | (with_reducible refine LeO.ite ?_ ?_)
      | (with_reducible refine LeO.bind ?_ (fun _ => ?_))
      | exact ih0 _ _ _ _
      | exact LeO.none _
      | refine LeO.ite ?_ ?_
      | refine LeO.bind ?_ (fun _ => ?_)
theorem scripts_runs_string.mono : ∀ a0 k, LeO (scripts_runs_string.f k a0) (scripts_runs_string.f (k + 1) a0) := by
  intro a0 k
  have ih0 := scripts_runs_string.mono_l k
  unfold scripts_runs_string.f
  repeat' first
      | (with_reducible exact ih0 _ _ _ _)
      | (with_reducible exact LeO.refl _)
      | (with_reducible exact LeO.none _)
      | (with_reducible refine LeO.ite ?_ ?_)
      | (with_reducible refine LeO.bind ?_ (fun _ => ?_))
      | exact ih0 _ _ _ _
      | exact LeO.none _
      | refine LeO.ite ?_ ?_
      | refine LeO.bind ?_ (fun _ => ?_)
set_option maxHeartbeats 8000000 in
set_option maxRecDepth 100000 in
theorem scripts_runs_string.calls (k : Nat) (A0 : Option Addr) (c0 : Nat) (l0 : List ByteArray) (r : List (S38)) (w : World) (hr0 : Kd.C Kd.string w A0 l0.length l0) (hc0 : l0.length ≤ c0) (h : scripts_runs_string.f k l0 = some r) :
    Calls Try.prog 29 #[.slice A0 l0.length c0] w fun e w' => ∃ v0_ : Value, e = .returned (v0_) ∧ Kd.R k38 38 w' w.heap.size (fun _ => True) v0_ r ∧ Below w.heap.size w w' := by
  have hu38 := Try.underlying38
  have HR0 := Aside0.mk hr0
  have HC0 := Aside0.mk hc0
  clear hr0 hc0
  have HB := Aside0.mk (Below.refl w.heap.size w)
  have H : (scripts_runs_string.l0 k l0 ([] : List (S38)) (l0.length : Int) 0) = some r := h
  clear h
  have H' := Aside0.mk H
  clear H
  go_enter Try.func29, Try.ntmps29
  go_wp2
  repeat (go_quiet (fail); try go_wp2)
  go_loopg [3, 7] k (fun kq v3 v7 w' => ∃ (x3_1 : List (S38)) (x7_1 : Int), v7 = .int .i64 x7_1 ∧ Aside0 (scripts_runs_string.l0 kq l0 x3_1 (l0.length : Int) x7_1 = some r) ∧ Aside0 (kq ≤ k) ∧ Aside0 (Kd.R k38 38 w' w.heap.size (fun _ => True) v3 x3_1) ∧ Aside0 (Below w.heap.size w w'))
  case atStart => exact ⟨(([] : List (S38))), (0), (by first | rfl | (simp; done) | (simp [*]; done)), H', ⟨Nat.le_refl _⟩, ⟨by first | exact Kd.R_nil _ _ _ _ _ | exact Kd.N_nil _ _ _ _ _ | exact Kd.V_nil _ _ _ _ _ | exact Kd.Q_nil _ _ _ _ _ | exact Kd.S_nil _ _ _ _ _⟩, ⟨by repeat (first | (with_reducible first | exact HB.out | apply below_alloc | apply pw_below_drewN | apply below_drew1) | exact HB.out)⟩⟩
  case round =>
    clear H'
    obtain ⟨x3_1, x7_1, rfl, HA, HK1, HO_3, HB⟩ := hrel
    cases gk with
    | zero => exact absurd HA.out (by simp [scripts_runs_string.l0])
    | succ k1 =>
      have H := HA.out
      clear HA
      simp only [scripts_runs_string.l0] at H
      by_cases c2 : x7_1 < (l0.length : Int)
      · rw [if_pos c2] at H
        have c2b0 : decide (x7_1 < (l0.length : Int)) = true := decide_eq_true c2
        clear c2
        by_cases c3 : x7_1 = 0
        · rw [if_pos c3] at H
          have c3b0 : (x7_1 == 0) = true := beq_iff_eq.mpr c3
          have c3b1 : (x7_1 != 0) = false := bne_eq_false_iff_eq.mpr c3
          clear c3
          by_cases c4 : x3_1.length < 8796093022208
          · rw [if_pos c4] at H
            have LMc4 := Aside0.mk c4
            clear c4
            obtain ⟨y239, hy239⟩ : ∃ y_ : List (S38), y_ = (x3_1 ++ [(⟨x7_1, 0⟩ : S38)]) := ⟨_, rfl⟩
            replace H : (if 0 ≤ (wrap64 ((y239.length : Int) - 1)) then (if (wrap64 ((y239.length : Int) - 1)) < (y239.length : Int) then (scripts_runs_string.l0 k1 l0 (y239.set ((wrap64 ((y239.length : Int) - 1)) : Int).toNat (⟨(rd_T38 y239 (wrap64 ((y239.length : Int) - 1))).f0, wrap64 (x7_1 + 1)⟩ : S38)) (l0.length : Int) (wrap64 (x7_1 + 1))) else (none)) else (none)) = some r := by first | (rw [hy239]; with_reducible exact H) | (have H2_ := (Option.bind_some _ _).symm.trans H; rw [hy239]; with_reducible exact H2_) | (have H2_ := (Option.bind_some _ _).symm.trans H; with_reducible exact H2_) | with_reducible exact H | (rw [hy239]; exact H) | exact H
            have Ny239 := Aside0.mk hy239
            clear hy239
            obtain ⟨ji5, hji5⟩ : ∃ j_ : Int, (wrap64 ((y239.length : Int) - 1)) = j_ := ⟨_, rfl⟩
            replace H : (if 0 ≤ (ji5) then (if (ji5) < (y239.length : Int) then (scripts_runs_string.l0 k1 l0 (y239.set ((ji5) : Int).toNat (⟨(rd_T38 y239 (ji5)).f0, wrap64 (x7_1 + 1)⟩ : S38)) (l0.length : Int) (wrap64 (x7_1 + 1))) else (none)) else (none)) = some r := by first | (rw [hji5] at H; exact H) | (simp only [hji5] at H ⊢; exact H)
            have hji5w : (IntKind.i64.wrap ((y239.length : Int) - 1)) = ji5 := (i64_w _).trans hji5
            by_cases c6 : 0 ≤ (ji5)
            · rw [if_pos c6] at H
              have c6b0 : decide (0 ≤ (ji5)) = true := decide_eq_true c6
              clear c6
              by_cases c7 : (ji5) < (y239.length : Int)
              · rw [if_pos c7] at H
                have c7b0 : decide ((ji5) < (y239.length : Int)) = true := decide_eq_true c7
                clear c7
                obtain ⟨y242, hy242⟩ : ∃ y_ : List (S38), y_ = (y239.set ((ji5) : Int).toNat (⟨(rd_T38 y239 (ji5)).f0, wrap64 (x7_1 + 1)⟩ : S38)) := ⟨_, rfl⟩
                replace H : (scripts_runs_string.l0 k1 l0 y242 (l0.length : Int) (wrap64 (x7_1 + 1))) = some r := by first | (rw [hy242]; with_reducible exact H) | (have H2_ := (Option.bind_some _ _).symm.trans H; rw [hy242]; with_reducible exact H2_) | (have H2_ := (Option.bind_some _ _).symm.trans H; with_reducible exact H2_) | with_reducible exact H | (rw [hy242]; exact H) | exact H
                have Ny242 := Aside0.mk hy242
                clear hy242
                have H' := Aside0.mk H
                clear H
                go_wp2_with (first | ((with_reducible refine gate_builtin (b := .append) (xs := #[.tmp 24, .tmp 27]) rfl ?_); at_builtin; refine Kd.R_append k38 (w0 := w) w.heap.size rfl (.tmp 24) (.tmp 27) 29 38 (.agg #[(.int .i64 0), (.int .i64 0)]) 16 rfl Try.underlying29 info38 rfl (by decide) (by omega) u3 x3_1 (⟨x7_1, 0⟩ : S38) [.int .i64 x7_1, .int .i64 0] (fun _ => True) (fun _ => False) rfl rfl ?aP (fun _ hk => hk.elim) ?aF ?aO ?aB ?aS ?aL ?_; (case aP => exact k38_mkM _ _ _ (⟨x7_1, 0⟩ : S38)); (case aB => exact (by repeat (first | (with_reducible first | exact HB.out | apply below_alloc | apply pw_below_drewN | apply below_drew1) | exact HB.out))); (case aF => exact (fun _ _ => trivial)); (case aO => exact (by (with_reducible repeat (first | apply Kd.R_alloc | apply Kd.R_drewN | apply Kd.R_drew)); exact HO_3.out)); (case aS => exact (below_size (by repeat (first | (with_reducible first | exact HB.out | apply below_alloc | apply pw_below_drewN | apply below_drew1) | exact HB.out)))); (case aL => have := LMc4.out; omega); intro v240 w9 ho hb hg hat; rw [← Ny239.out] at ho; have n0_ := Aside0.mk (hb); have n1_ := Aside0.mk (ho); clear HB; clear HO_3; have HB := n0_; have HO241 := n1_; clear n0_ n1_; clear ho hb hg hat; obtain ⟨Ao10, co10, eo10⟩ := Kd.R_slice HO241.out; subst eo10; have p8 : 0 ≤ ((ji5) : Int) := of_decide_eq_true (by first | (with_reducible assumption) | assumption); have q8 : ((ji5) : Int) < ((y239.length : Int) : Int) := of_decide_eq_true (by first | (with_reducible assumption) | assumption); obtain ⟨go8, co8, eo8, gb8, gl8, cl8, HG8⟩ := Kd.R_form HO241.out (by omega); (first | cases eo8 | (injection eo8 with ea_ en_ ec_; (first | subst ea_ | (injection ea_ with ea_; subst ea_)); subst ec_; clear en_)); have GB8 := Aside0.mk gb8; have GG8 := Aside0.mk HG8; clear gb8 gl8 HG8; obtain ⟨ce8, hcl8, hM8, hcc8, hfr8⟩ := Kd.R_elem HO241.out z38 ((ji5) : Int) p8 q8; obtain rfl := k38_openM hM8; have hx8_0 : w9.cell? ⟨go8, ((ji5) : Int).toNat * 2, none⟩ = some (.int .i64 ((rd_T38 y239 (ji5)).f0)) := hcc8 0 _ rfl; have hx8_1 : w9.cell? ⟨go8, ((ji5) : Int).toNat * 2 + 1, none⟩ = some (.int .i64 ((rd_T38 y239 (ji5)).f1)) := hcc8 1 _ rfl; have hf8_0 : w9.frozen? ⟨go8, ((ji5) : Int).toNat * 2, none⟩ = false := hfr8 0; have hf8_1 : w9.frozen? ⟨go8, ((ji5) : Int).toNat * 2 + 1, none⟩ = false := hfr8 1; clear hcl8 hcc8 hfr8 hM8; replace p8 := eq_true p8; replace q8 := eq_true q8; have HX11 := Aside0.mk (show Kd.R k38 38 w9 w.heap.size (fun _ => True) (.slice (some ⟨go8, 0, none⟩) y239.length co10) y239 from (by (with_reducible repeat (first | apply Kd.R_alloc | apply Kd.R_drewN | apply Kd.R_drew)); exact HO241.out)); obtain ⟨ce11, hcl11, hM11, hcc11, hfr11⟩ := Kd.R_elem HX11.out z38 ((ji5) : Int) (of_decide_eq_true (by first | (with_reducible assumption) | assumption)) (by have h_ : ((ji5) : Int) < ((y239.length : Int) : Int) := of_decide_eq_true (by first | (with_reducible assumption) | assumption); first | exact h_ | (have e_ := (Kd.R_reads' HO241.out).1; omega) | simpa using h_); obtain rfl := k38_openM hM11; have HP11 := Kd.R_seg HX11.out ((ji5) : Int) (of_decide_eq_true (by first | (with_reducible assumption) | assumption)) (by have h_ : ((ji5) : Int) < ((y239.length : Int) : Int) := of_decide_eq_true (by first | (with_reducible assumption) | assumption); first | exact h_ | (have e_ := (Kd.R_reads' HO241.out).1; omega) | simpa using h_) (seg := [.int .i64 (wrap64 (x7_1 + 1))]) (j := 1) hcl11 hcc11 (show 2 ≤ 2 from by decide) (x' := (⟨(rd_T38 y239 (ji5)).f0, wrap64 (x7_1 + 1)⟩ : S38)) (k38_mkM _ _ _ (⟨(rd_T38 y239 (ji5)).f0, wrap64 (x7_1 + 1)⟩ : S38) ) (fun _ hk => hk); have hx11_1 := hcc11 1 _ rfl; (try simp only [show (k38).sz = 2 from rfl, Nat.mul_one, Nat.add_zero] at hx11_1); have hf11_1 := hfr11 1; (try simp only [show (k38).sz = 2 from rfl, Nat.mul_one, Nat.add_zero] at hf11_1); clear hcl11 hcc11 hfr11 hM11) | ((with_reducible refine gate_store (t := 3) (p := 36) rfl ?_); (try (rw [drewN_self w9]; generalize hq_ : World.drewN w9 _ = w9; have n0_ := Aside0.mk (Kd.R_at hq_ HO241.out); have n1_ := Aside0.mk (below_at hq_ HB.out); clear hq_ HO241 HB; have HO241 := n0_; have HB := n1_; clear n0_ n1_; (try (have HX11 := Aside0.mk (show Kd.R k38 38 w9 w.heap.size (fun _ => True) (.slice (some ⟨go8, 0, none⟩) y239.length co10) y239 from (by (with_reducible repeat (first | apply Kd.R_alloc | apply Kd.R_drewN | apply Kd.R_drew)); exact HO241.out)))); (try (obtain ⟨ce11, hcl11, hM11, hcc11, hfr11⟩ := Kd.R_elem HX11.out z38 ((ji5) : Int) (of_decide_eq_true (by first | (with_reducible assumption) | assumption)) (by have h_ : ((ji5) : Int) < ((y239.length : Int) : Int) := of_decide_eq_true (by first | (with_reducible assumption) | assumption); first | exact h_ | (have e_ := (Kd.R_reads' HO241.out).1; omega) | simpa using h_))); (try (obtain rfl := k38_openM hM11)); (try (have HP11 := Kd.R_seg HX11.out ((ji5) : Int) (of_decide_eq_true (by first | (with_reducible assumption) | assumption)) (by have h_ : ((ji5) : Int) < ((y239.length : Int) : Int) := of_decide_eq_true (by first | (with_reducible assumption) | assumption); first | exact h_ | (have e_ := (Kd.R_reads' HO241.out).1; omega) | simpa using h_) (seg := [.int .i64 (wrap64 (x7_1 + 1))]) (j := 1) hcl11 hcc11 (show 2 ≤ 2 from by decide) (x' := (⟨(rd_T38 y239 (ji5)).f0, wrap64 (x7_1 + 1)⟩ : S38)) (k38_mkM _ _ _ (⟨(rd_T38 y239 (ji5)).f0, wrap64 (x7_1 + 1)⟩ : S38) ) (fun _ hk => hk))); (try (have hx11_1 := hcc11 1 _ rfl)); (try (try simp only [show (k38).sz = 2 from rfl, Nat.mul_one, Nat.add_zero] at hx11_1)); (try (have hf11_1 := hfr11 1)); (try (try simp only [show (k38).sz = 2 from rfl, Nat.mul_one, Nat.add_zero] at hf11_1)); (try (clear hcl11 hcc11 hfr11 hM11)))); refine store_event (t := 3) (p := 36) (v := ?vo_w12) (w1 := (w9.setCell ⟨go8, ((ji5) : Int).toNat * 2 + 1, none⟩ (.int .i64 (wrap64 (x7_1 + 1))))) ?hg ?ho ?hn ?hr ?_; (case ho => rfl); (case hg => rfl); (case hn => rfl); (case hr => first | (go_simp; done) | (go_simp; rfl)); intro w12 hw; have hg : w9.grownBy w12 (some go8) := (by rw [hw]; exact HP11.2); have hp_ : Kd.R k38 38 w12 w.heap.size (fun _ => True) (.slice (some ⟨go8, 0, none⟩) y239.length co10) y242 := (by rw [hw, Ny242.out]; exact HP11.1); clear HP11; have n0_ := Aside0.mk (hp_); have n1_ := Aside0.mk ((by rw [hw]; exact below_set (HB.out) GB8.out : Below w.heap.size w w12)); clear HO241; clear HB; have HO241 := n0_; have HB := n1_; clear n0_ n1_; clear hg hw hp_))
                repeat (go_quiet (first | ((with_reducible refine gate_builtin (b := .append) (xs := #[.tmp 24, .tmp 27]) rfl ?_); at_builtin; refine Kd.R_append k38 (w0 := w) w.heap.size rfl (.tmp 24) (.tmp 27) 29 38 (.agg #[(.int .i64 0), (.int .i64 0)]) 16 rfl Try.underlying29 info38 rfl (by decide) (by omega) u3 x3_1 (⟨x7_1, 0⟩ : S38) [.int .i64 x7_1, .int .i64 0] (fun _ => True) (fun _ => False) rfl rfl ?aP (fun _ hk => hk.elim) ?aF ?aO ?aB ?aS ?aL ?_; (case aP => exact k38_mkM _ _ _ (⟨x7_1, 0⟩ : S38)); (case aB => exact (by repeat (first | (with_reducible first | exact HB.out | apply below_alloc | apply pw_below_drewN | apply below_drew1) | exact HB.out))); (case aF => exact (fun _ _ => trivial)); (case aO => exact (by (with_reducible repeat (first | apply Kd.R_alloc | apply Kd.R_drewN | apply Kd.R_drew)); exact HO_3.out)); (case aS => exact (below_size (by repeat (first | (with_reducible first | exact HB.out | apply below_alloc | apply pw_below_drewN | apply below_drew1) | exact HB.out)))); (case aL => have := LMc4.out; omega); intro v240 w9 ho hb hg hat; rw [← Ny239.out] at ho; have n0_ := Aside0.mk (hb); have n1_ := Aside0.mk (ho); clear HB; clear HO_3; have HB := n0_; have HO241 := n1_; clear n0_ n1_; clear ho hb hg hat; obtain ⟨Ao10, co10, eo10⟩ := Kd.R_slice HO241.out; subst eo10; have p8 : 0 ≤ ((ji5) : Int) := of_decide_eq_true (by first | (with_reducible assumption) | assumption); have q8 : ((ji5) : Int) < ((y239.length : Int) : Int) := of_decide_eq_true (by first | (with_reducible assumption) | assumption); obtain ⟨go8, co8, eo8, gb8, gl8, cl8, HG8⟩ := Kd.R_form HO241.out (by omega); (first | cases eo8 | (injection eo8 with ea_ en_ ec_; (first | subst ea_ | (injection ea_ with ea_; subst ea_)); subst ec_; clear en_)); have GB8 := Aside0.mk gb8; have GG8 := Aside0.mk HG8; clear gb8 gl8 HG8; obtain ⟨ce8, hcl8, hM8, hcc8, hfr8⟩ := Kd.R_elem HO241.out z38 ((ji5) : Int) p8 q8; obtain rfl := k38_openM hM8; have hx8_0 : w9.cell? ⟨go8, ((ji5) : Int).toNat * 2, none⟩ = some (.int .i64 ((rd_T38 y239 (ji5)).f0)) := hcc8 0 _ rfl; have hx8_1 : w9.cell? ⟨go8, ((ji5) : Int).toNat * 2 + 1, none⟩ = some (.int .i64 ((rd_T38 y239 (ji5)).f1)) := hcc8 1 _ rfl; have hf8_0 : w9.frozen? ⟨go8, ((ji5) : Int).toNat * 2, none⟩ = false := hfr8 0; have hf8_1 : w9.frozen? ⟨go8, ((ji5) : Int).toNat * 2 + 1, none⟩ = false := hfr8 1; clear hcl8 hcc8 hfr8 hM8; replace p8 := eq_true p8; replace q8 := eq_true q8; have HX11 := Aside0.mk (show Kd.R k38 38 w9 w.heap.size (fun _ => True) (.slice (some ⟨go8, 0, none⟩) y239.length co10) y239 from (by (with_reducible repeat (first | apply Kd.R_alloc | apply Kd.R_drewN | apply Kd.R_drew)); exact HO241.out)); obtain ⟨ce11, hcl11, hM11, hcc11, hfr11⟩ := Kd.R_elem HX11.out z38 ((ji5) : Int) (of_decide_eq_true (by first | (with_reducible assumption) | assumption)) (by have h_ : ((ji5) : Int) < ((y239.length : Int) : Int) := of_decide_eq_true (by first | (with_reducible assumption) | assumption); first | exact h_ | (have e_ := (Kd.R_reads' HO241.out).1; omega) | simpa using h_); obtain rfl := k38_openM hM11; have HP11 := Kd.R_seg HX11.out ((ji5) : Int) (of_decide_eq_true (by first | (with_reducible assumption) | assumption)) (by have h_ : ((ji5) : Int) < ((y239.length : Int) : Int) := of_decide_eq_true (by first | (with_reducible assumption) | assumption); first | exact h_ | (have e_ := (Kd.R_reads' HO241.out).1; omega) | simpa using h_) (seg := [.int .i64 (wrap64 (x7_1 + 1))]) (j := 1) hcl11 hcc11 (show 2 ≤ 2 from by decide) (x' := (⟨(rd_T38 y239 (ji5)).f0, wrap64 (x7_1 + 1)⟩ : S38)) (k38_mkM _ _ _ (⟨(rd_T38 y239 (ji5)).f0, wrap64 (x7_1 + 1)⟩ : S38) ) (fun _ hk => hk); have hx11_1 := hcc11 1 _ rfl; (try simp only [show (k38).sz = 2 from rfl, Nat.mul_one, Nat.add_zero] at hx11_1); have hf11_1 := hfr11 1; (try simp only [show (k38).sz = 2 from rfl, Nat.mul_one, Nat.add_zero] at hf11_1); clear hcl11 hcc11 hfr11 hM11) | ((with_reducible refine gate_store (t := 3) (p := 36) rfl ?_); (try (rw [drewN_self w9]; generalize hq_ : World.drewN w9 _ = w9; have n0_ := Aside0.mk (Kd.R_at hq_ HO241.out); have n1_ := Aside0.mk (below_at hq_ HB.out); clear hq_ HO241 HB; have HO241 := n0_; have HB := n1_; clear n0_ n1_; (try (have HX11 := Aside0.mk (show Kd.R k38 38 w9 w.heap.size (fun _ => True) (.slice (some ⟨go8, 0, none⟩) y239.length co10) y239 from (by (with_reducible repeat (first | apply Kd.R_alloc | apply Kd.R_drewN | apply Kd.R_drew)); exact HO241.out)))); (try (obtain ⟨ce11, hcl11, hM11, hcc11, hfr11⟩ := Kd.R_elem HX11.out z38 ((ji5) : Int) (of_decide_eq_true (by first | (with_reducible assumption) | assumption)) (by have h_ : ((ji5) : Int) < ((y239.length : Int) : Int) := of_decide_eq_true (by first | (with_reducible assumption) | assumption); first | exact h_ | (have e_ := (Kd.R_reads' HO241.out).1; omega) | simpa using h_))); (try (obtain rfl := k38_openM hM11)); (try (have HP11 := Kd.R_seg HX11.out ((ji5) : Int) (of_decide_eq_true (by first | (with_reducible assumption) | assumption)) (by have h_ : ((ji5) : Int) < ((y239.length : Int) : Int) := of_decide_eq_true (by first | (with_reducible assumption) | assumption); first | exact h_ | (have e_ := (Kd.R_reads' HO241.out).1; omega) | simpa using h_) (seg := [.int .i64 (wrap64 (x7_1 + 1))]) (j := 1) hcl11 hcc11 (show 2 ≤ 2 from by decide) (x' := (⟨(rd_T38 y239 (ji5)).f0, wrap64 (x7_1 + 1)⟩ : S38)) (k38_mkM _ _ _ (⟨(rd_T38 y239 (ji5)).f0, wrap64 (x7_1 + 1)⟩ : S38) ) (fun _ hk => hk))); (try (have hx11_1 := hcc11 1 _ rfl)); (try (try simp only [show (k38).sz = 2 from rfl, Nat.mul_one, Nat.add_zero] at hx11_1)); (try (have hf11_1 := hfr11 1)); (try (try simp only [show (k38).sz = 2 from rfl, Nat.mul_one, Nat.add_zero] at hf11_1)); (try (clear hcl11 hcc11 hfr11 hM11)))); refine store_event (t := 3) (p := 36) (v := ?vo_w12) (w1 := (w9.setCell ⟨go8, ((ji5) : Int).toNat * 2 + 1, none⟩ (.int .i64 (wrap64 (x7_1 + 1))))) ?hg ?ho ?hn ?hr ?_; (case ho => rfl); (case hg => rfl); (case hn => rfl); (case hr => first | (go_simp; done) | (go_simp; rfl)); intro w12 hw; have hg : w9.grownBy w12 (some go8) := (by rw [hw]; exact HP11.2); have hp_ : Kd.R k38 38 w12 w.heap.size (fun _ => True) (.slice (some ⟨go8, 0, none⟩) y239.length co10) y242 := (by rw [hw, Ny242.out]; exact HP11.1); clear HP11; have n0_ := Aside0.mk (hp_); have n1_ := Aside0.mk ((by rw [hw]; exact below_set (HB.out) GB8.out : Below w.heap.size w w12)); clear HO241; clear HB; have HO241 := n0_; have HB := n1_; clear n0_ n1_; clear hg hw hp_)); try go_wp2_with (first | ((with_reducible refine gate_builtin (b := .append) (xs := #[.tmp 24, .tmp 27]) rfl ?_); at_builtin; refine Kd.R_append k38 (w0 := w) w.heap.size rfl (.tmp 24) (.tmp 27) 29 38 (.agg #[(.int .i64 0), (.int .i64 0)]) 16 rfl Try.underlying29 info38 rfl (by decide) (by omega) u3 x3_1 (⟨x7_1, 0⟩ : S38) [.int .i64 x7_1, .int .i64 0] (fun _ => True) (fun _ => False) rfl rfl ?aP (fun _ hk => hk.elim) ?aF ?aO ?aB ?aS ?aL ?_; (case aP => exact k38_mkM _ _ _ (⟨x7_1, 0⟩ : S38)); (case aB => exact (by repeat (first | (with_reducible first | exact HB.out | apply below_alloc | apply pw_below_drewN | apply below_drew1) | exact HB.out))); (case aF => exact (fun _ _ => trivial)); (case aO => exact (by (with_reducible repeat (first | apply Kd.R_alloc | apply Kd.R_drewN | apply Kd.R_drew)); exact HO_3.out)); (case aS => exact (below_size (by repeat (first | (with_reducible first | exact HB.out | apply below_alloc | apply pw_below_drewN | apply below_drew1) | exact HB.out)))); (case aL => have := LMc4.out; omega); intro v240 w9 ho hb hg hat; rw [← Ny239.out] at ho; have n0_ := Aside0.mk (hb); have n1_ := Aside0.mk (ho); clear HB; clear HO_3; have HB := n0_; have HO241 := n1_; clear n0_ n1_; clear ho hb hg hat; obtain ⟨Ao10, co10, eo10⟩ := Kd.R_slice HO241.out; subst eo10; have p8 : 0 ≤ ((ji5) : Int) := of_decide_eq_true (by first | (with_reducible assumption) | assumption); have q8 : ((ji5) : Int) < ((y239.length : Int) : Int) := of_decide_eq_true (by first | (with_reducible assumption) | assumption); obtain ⟨go8, co8, eo8, gb8, gl8, cl8, HG8⟩ := Kd.R_form HO241.out (by omega); (first | cases eo8 | (injection eo8 with ea_ en_ ec_; (first | subst ea_ | (injection ea_ with ea_; subst ea_)); subst ec_; clear en_)); have GB8 := Aside0.mk gb8; have GG8 := Aside0.mk HG8; clear gb8 gl8 HG8; obtain ⟨ce8, hcl8, hM8, hcc8, hfr8⟩ := Kd.R_elem HO241.out z38 ((ji5) : Int) p8 q8; obtain rfl := k38_openM hM8; have hx8_0 : w9.cell? ⟨go8, ((ji5) : Int).toNat * 2, none⟩ = some (.int .i64 ((rd_T38 y239 (ji5)).f0)) := hcc8 0 _ rfl; have hx8_1 : w9.cell? ⟨go8, ((ji5) : Int).toNat * 2 + 1, none⟩ = some (.int .i64 ((rd_T38 y239 (ji5)).f1)) := hcc8 1 _ rfl; have hf8_0 : w9.frozen? ⟨go8, ((ji5) : Int).toNat * 2, none⟩ = false := hfr8 0; have hf8_1 : w9.frozen? ⟨go8, ((ji5) : Int).toNat * 2 + 1, none⟩ = false := hfr8 1; clear hcl8 hcc8 hfr8 hM8; replace p8 := eq_true p8; replace q8 := eq_true q8; have HX11 := Aside0.mk (show Kd.R k38 38 w9 w.heap.size (fun _ => True) (.slice (some ⟨go8, 0, none⟩) y239.length co10) y239 from (by (with_reducible repeat (first | apply Kd.R_alloc | apply Kd.R_drewN | apply Kd.R_drew)); exact HO241.out)); obtain ⟨ce11, hcl11, hM11, hcc11, hfr11⟩ := Kd.R_elem HX11.out z38 ((ji5) : Int) (of_decide_eq_true (by first | (with_reducible assumption) | assumption)) (by have h_ : ((ji5) : Int) < ((y239.length : Int) : Int) := of_decide_eq_true (by first | (with_reducible assumption) | assumption); first | exact h_ | (have e_ := (Kd.R_reads' HO241.out).1; omega) | simpa using h_); obtain rfl := k38_openM hM11; have HP11 := Kd.R_seg HX11.out ((ji5) : Int) (of_decide_eq_true (by first | (with_reducible assumption) | assumption)) (by have h_ : ((ji5) : Int) < ((y239.length : Int) : Int) := of_decide_eq_true (by first | (with_reducible assumption) | assumption); first | exact h_ | (have e_ := (Kd.R_reads' HO241.out).1; omega) | simpa using h_) (seg := [.int .i64 (wrap64 (x7_1 + 1))]) (j := 1) hcl11 hcc11 (show 2 ≤ 2 from by decide) (x' := (⟨(rd_T38 y239 (ji5)).f0, wrap64 (x7_1 + 1)⟩ : S38)) (k38_mkM _ _ _ (⟨(rd_T38 y239 (ji5)).f0, wrap64 (x7_1 + 1)⟩ : S38) ) (fun _ hk => hk); have hx11_1 := hcc11 1 _ rfl; (try simp only [show (k38).sz = 2 from rfl, Nat.mul_one, Nat.add_zero] at hx11_1); have hf11_1 := hfr11 1; (try simp only [show (k38).sz = 2 from rfl, Nat.mul_one, Nat.add_zero] at hf11_1); clear hcl11 hcc11 hfr11 hM11) | ((with_reducible refine gate_store (t := 3) (p := 36) rfl ?_); (try (rw [drewN_self w9]; generalize hq_ : World.drewN w9 _ = w9; have n0_ := Aside0.mk (Kd.R_at hq_ HO241.out); have n1_ := Aside0.mk (below_at hq_ HB.out); clear hq_ HO241 HB; have HO241 := n0_; have HB := n1_; clear n0_ n1_; (try (have HX11 := Aside0.mk (show Kd.R k38 38 w9 w.heap.size (fun _ => True) (.slice (some ⟨go8, 0, none⟩) y239.length co10) y239 from (by (with_reducible repeat (first | apply Kd.R_alloc | apply Kd.R_drewN | apply Kd.R_drew)); exact HO241.out)))); (try (obtain ⟨ce11, hcl11, hM11, hcc11, hfr11⟩ := Kd.R_elem HX11.out z38 ((ji5) : Int) (of_decide_eq_true (by first | (with_reducible assumption) | assumption)) (by have h_ : ((ji5) : Int) < ((y239.length : Int) : Int) := of_decide_eq_true (by first | (with_reducible assumption) | assumption); first | exact h_ | (have e_ := (Kd.R_reads' HO241.out).1; omega) | simpa using h_))); (try (obtain rfl := k38_openM hM11)); (try (have HP11 := Kd.R_seg HX11.out ((ji5) : Int) (of_decide_eq_true (by first | (with_reducible assumption) | assumption)) (by have h_ : ((ji5) : Int) < ((y239.length : Int) : Int) := of_decide_eq_true (by first | (with_reducible assumption) | assumption); first | exact h_ | (have e_ := (Kd.R_reads' HO241.out).1; omega) | simpa using h_) (seg := [.int .i64 (wrap64 (x7_1 + 1))]) (j := 1) hcl11 hcc11 (show 2 ≤ 2 from by decide) (x' := (⟨(rd_T38 y239 (ji5)).f0, wrap64 (x7_1 + 1)⟩ : S38)) (k38_mkM _ _ _ (⟨(rd_T38 y239 (ji5)).f0, wrap64 (x7_1 + 1)⟩ : S38) ) (fun _ hk => hk))); (try (have hx11_1 := hcc11 1 _ rfl)); (try (try simp only [show (k38).sz = 2 from rfl, Nat.mul_one, Nat.add_zero] at hx11_1)); (try (have hf11_1 := hfr11 1)); (try (try simp only [show (k38).sz = 2 from rfl, Nat.mul_one, Nat.add_zero] at hf11_1)); (try (clear hcl11 hcc11 hfr11 hM11)))); refine store_event (t := 3) (p := 36) (v := ?vo_w12) (w1 := (w9.setCell ⟨go8, ((ji5) : Int).toNat * 2 + 1, none⟩ (.int .i64 (wrap64 (x7_1 + 1))))) ?hg ?ho ?hn ?hr ?_; (case ho => rfl); (case hg => rfl); (case hn => rfl); (case hr => first | (go_simp; done) | (go_simp; rfl)); intro w12 hw; have hg : w9.grownBy w12 (some go8) := (by rw [hw]; exact HP11.2); have hp_ : Kd.R k38 38 w12 w.heap.size (fun _ => True) (.slice (some ⟨go8, 0, none⟩) y239.length co10) y242 := (by rw [hw, Ny242.out]; exact HP11.1); clear HP11; have n0_ := Aside0.mk (hp_); have n1_ := Aside0.mk ((by rw [hw]; exact below_set (HB.out) GB8.out : Below w.heap.size w w12)); clear HO241; clear HB; have HO241 := n0_; have HB := n1_; clear n0_ n1_; clear hg hw hp_)))
                go_roundg k1
                case measure => have := HK1.out; omega
                case rel => exact ⟨(y242), (wrap64 (x7_1 + 1)), (by first | rfl | (simp; done) | (simp [*]; done)), H', ⟨by have := HK1.out; omega⟩, ⟨by (with_reducible repeat (first | apply Kd.R_alloc | apply Kd.R_drewN | apply Kd.R_drew)); exact HO241.out⟩, ⟨by repeat (first | (with_reducible first | exact HB.out | apply below_alloc | apply pw_below_drewN | apply below_drew1) | exact HB.out)⟩⟩
              · rw [if_neg c7] at H
                exact absurd H (by simp)
            · rw [if_neg c6] at H
              exact absurd H (by simp)
          · rw [if_neg c4] at H
            exact absurd H (by simp)
        · rw [if_neg c3] at H
          have c3b0 : (x7_1 == 0) = false := beq_eq_false_iff_ne.mpr c3
          have c3b1 : (x7_1 != 0) = true := bne_iff_ne.mpr c3
          by_cases c13 : 0 ≤ x7_1
          · rw [if_pos c13] at H
            have c13b0 : decide (0 ≤ x7_1) = true := decide_eq_true c13
            clear c13
            by_cases c14 : x7_1 < (l0.length : Int)
            · rw [if_pos c14] at H
              have c14b0 : decide (x7_1 < (l0.length : Int)) = true := decide_eq_true c14
              clear c14
              obtain ⟨ji15, hji15⟩ : ∃ j_ : Int, (wrap64 (x7_1 - 1)) = j_ := ⟨_, rfl⟩
              replace H : (if 0 ≤ (ji15) then (if (ji15) < (l0.length : Int) then (if (rdOf ByteArray.empty l0 x7_1).toList = (rdOf ByteArray.empty l0 (ji15)).toList then (if 0 ≤ (wrap64 ((x3_1.length : Int) - 1)) then (if (wrap64 ((x3_1.length : Int) - 1)) < (x3_1.length : Int) then (scripts_runs_string.l0 k1 l0 (x3_1.set ((wrap64 ((x3_1.length : Int) - 1)) : Int).toNat (⟨(rd_T38 x3_1 (wrap64 ((x3_1.length : Int) - 1))).f0, wrap64 (x7_1 + 1)⟩ : S38)) (l0.length : Int) (wrap64 (x7_1 + 1))) else (none)) else (none)) else (if x3_1.length < 8796093022208 then ((some (x3_1 ++ [(⟨x7_1, 0⟩ : S38)] : List (S38))).bind fun y246 => (if 0 ≤ (wrap64 ((y246.length : Int) - 1)) then (if (wrap64 ((y246.length : Int) - 1)) < (y246.length : Int) then (scripts_runs_string.l0 k1 l0 (y246.set ((wrap64 ((y246.length : Int) - 1)) : Int).toNat (⟨(rd_T38 y246 (wrap64 ((y246.length : Int) - 1))).f0, wrap64 (x7_1 + 1)⟩ : S38)) (l0.length : Int) (wrap64 (x7_1 + 1))) else (none)) else (none))) else (none))) else (none)) else (none)) = some r := by first | (rw [hji15] at H; exact H) | (simp only [hji15] at H ⊢; exact H)
              have hji15w : (IntKind.i64.wrap (x7_1 - 1)) = ji15 := (i64_w _).trans hji15
              by_cases c16 : 0 ≤ (ji15)
              · rw [if_pos c16] at H
                have c16b0 : decide (0 ≤ (ji15)) = true := decide_eq_true c16
                clear c16
                by_cases c17 : (ji15) < (l0.length : Int)
                · rw [if_pos c17] at H
                  have c17b0 : decide ((ji15) < (l0.length : Int)) = true := decide_eq_true c17
                  clear c17
                  by_cases c18 : (rdOf ByteArray.empty l0 x7_1).toList = (rdOf ByteArray.empty l0 (ji15)).toList
                  · rw [if_pos c18] at H
                    have c18b0 : ((rdOf ByteArray.empty l0 x7_1).toList == (rdOf ByteArray.empty l0 (ji15)).toList) = true := beq_iff_eq.mpr c18
                    have c18b1 : ((rdOf ByteArray.empty l0 x7_1).toList != (rdOf ByteArray.empty l0 (ji15)).toList) = false := bne_eq_false_iff_eq.mpr c18
                    clear c18
                    obtain ⟨ji19, hji19⟩ : ∃ j_ : Int, (wrap64 ((x3_1.length : Int) - 1)) = j_ := ⟨_, rfl⟩
                    replace H : (if 0 ≤ (ji19) then (if (ji19) < (x3_1.length : Int) then (scripts_runs_string.l0 k1 l0 (x3_1.set ((ji19) : Int).toNat (⟨(rd_T38 x3_1 (ji19)).f0, wrap64 (x7_1 + 1)⟩ : S38)) (l0.length : Int) (wrap64 (x7_1 + 1))) else (none)) else (none)) = some r := by first | (rw [hji19] at H; exact H) | (simp only [hji19] at H ⊢; exact H)
                    have hji19w : (IntKind.i64.wrap ((x3_1.length : Int) - 1)) = ji19 := (i64_w _).trans hji19
                    by_cases c20 : 0 ≤ (ji19)
                    · rw [if_pos c20] at H
                      have c20b0 : decide (0 ≤ (ji19)) = true := decide_eq_true c20
                      clear c20
                      by_cases c21 : (ji19) < (x3_1.length : Int)
                      · rw [if_pos c21] at H
                        have c21b0 : decide ((ji19) < (x3_1.length : Int)) = true := decide_eq_true c21
                        clear c21
                        obtain ⟨y245, hy245⟩ : ∃ y_ : List (S38), y_ = (x3_1.set ((ji19) : Int).toNat (⟨(rd_T38 x3_1 (ji19)).f0, wrap64 (x7_1 + 1)⟩ : S38)) := ⟨_, rfl⟩
                        replace H : (scripts_runs_string.l0 k1 l0 y245 (l0.length : Int) (wrap64 (x7_1 + 1))) = some r := by first | (rw [hy245]; with_reducible exact H) | (have H2_ := (Option.bind_some _ _).symm.trans H; rw [hy245]; with_reducible exact H2_) | (have H2_ := (Option.bind_some _ _).symm.trans H; with_reducible exact H2_) | with_reducible exact H | (rw [hy245]; exact H) | exact H
                        have Ny245 := Aside0.mk hy245
                        clear hy245
                        have H' := Aside0.mk H
                        clear H
                        have p243 : 0 ≤ (x7_1 : Int) := of_decide_eq_true (by first | (with_reducible assumption) | assumption)
                        have q243 : x7_1 < (l0.length : Int) := of_decide_eq_true (by first | (with_reducible assumption) | assumption)
                        obtain ⟨ad243, e243, hx243_0⟩ := Kd.at_string HR0.out x7_1 p243 q243
                        cases e243
                        replace hx243_0 := (HB.out.cell (World.block_lt_of_cell? w _ hx243_0)).trans hx243_0
                        replace p243 := eq_true p243
                        replace q243 := eq_true q243
                        have p244 : 0 ≤ ((ji15) : Int) := of_decide_eq_true (by first | (with_reducible assumption) | assumption)
                        have q244 : (ji15) < (l0.length : Int) := of_decide_eq_true (by first | (with_reducible assumption) | assumption)
                        obtain ⟨ad244, e244, hx244_0⟩ := Kd.at_string HR0.out (ji15) p244 q244
                        obtain rfl : ad243 = ad244 := (by injection e244)
                        replace hx244_0 := (HB.out.cell (World.block_lt_of_cell? w _ hx244_0)).trans hx244_0
                        replace p244 := eq_true p244
                        replace q244 := eq_true q244
                        obtain ⟨Ao23, co23, eo23⟩ := Kd.R_slice HO_3.out
                        subst eo23
                        have p22 : 0 ≤ ((ji19) : Int) := of_decide_eq_true (by first | (with_reducible assumption) | assumption)
                        have q22 : ((ji19) : Int) < ((x3_1.length : Int) : Int) := of_decide_eq_true (by first | (with_reducible assumption) | assumption)
                        obtain ⟨go22, co22, eo22, gb22, gl22, cl22, HG22⟩ := Kd.R_form HO_3.out (by omega)
                        (first | cases eo22 | (injection eo22 with ea_ en_ ec_; (first | subst ea_ | (injection ea_ with ea_; subst ea_)); subst ec_; clear en_))
                        have GB22 := Aside0.mk gb22
                        have GG22 := Aside0.mk HG22
                        clear gb22 gl22 HG22
                        obtain ⟨ce22, hcl22, hM22, hcc22, hfr22⟩ := Kd.R_elem HO_3.out z38 ((ji19) : Int) p22 q22
                        obtain rfl := k38_openM hM22
                        have hx22_0 : wr.cell? ⟨go22, ((ji19) : Int).toNat * 2, none⟩ = some (.int .i64 ((rd_T38 x3_1 (ji19)).f0)) := hcc22 0 _ rfl
                        have hx22_1 : wr.cell? ⟨go22, ((ji19) : Int).toNat * 2 + 1, none⟩ = some (.int .i64 ((rd_T38 x3_1 (ji19)).f1)) := hcc22 1 _ rfl
                        have hf22_0 : wr.frozen? ⟨go22, ((ji19) : Int).toNat * 2, none⟩ = false := hfr22 0
                        have hf22_1 : wr.frozen? ⟨go22, ((ji19) : Int).toNat * 2 + 1, none⟩ = false := hfr22 1
                        clear hcl22 hcc22 hfr22 hM22
                        replace p22 := eq_true p22
                        replace q22 := eq_true q22
                        have HX24 := Aside0.mk (show Kd.R k38 38 wr w.heap.size (fun _ => True) (.slice (some ⟨go22, 0, none⟩) x3_1.length co23) x3_1 from (by (with_reducible repeat (first | apply Kd.R_alloc | apply Kd.R_drewN | apply Kd.R_drew)); exact HO_3.out))
                        obtain ⟨ce24, hcl24, hM24, hcc24, hfr24⟩ := Kd.R_elem HX24.out z38 ((ji19) : Int) (of_decide_eq_true (by first | (with_reducible assumption) | assumption)) (by have h_ : ((ji19) : Int) < ((x3_1.length : Int) : Int) := of_decide_eq_true (by first | (with_reducible assumption) | assumption); first | exact h_ | (have e_ := (Kd.R_reads' HO_3.out).1; omega) | simpa using h_)
                        obtain rfl := k38_openM hM24
                        have HP24 := Kd.R_seg HX24.out ((ji19) : Int) (of_decide_eq_true (by first | (with_reducible assumption) | assumption)) (by have h_ : ((ji19) : Int) < ((x3_1.length : Int) : Int) := of_decide_eq_true (by first | (with_reducible assumption) | assumption); first | exact h_ | (have e_ := (Kd.R_reads' HO_3.out).1; omega) | simpa using h_) (seg := [.int .i64 (wrap64 (x7_1 + 1))]) (j := 1) hcl24 hcc24 (show 2 ≤ 2 from by decide) (x' := (⟨(rd_T38 x3_1 (ji19)).f0, wrap64 (x7_1 + 1)⟩ : S38)) (k38_mkM _ _ _ (⟨(rd_T38 x3_1 (ji19)).f0, wrap64 (x7_1 + 1)⟩ : S38) ) (fun _ hk => hk)
                        have hx24_1 := hcc24 1 _ rfl
                        (try simp only [show (k38).sz = 2 from rfl, Nat.mul_one, Nat.add_zero] at hx24_1)
                        have hf24_1 := hfr24 1
                        (try simp only [show (k38).sz = 2 from rfl, Nat.mul_one, Nat.add_zero] at hf24_1)
                        clear hcl24 hcc24 hfr24 hM24
                        go_wp2_with (first | ((with_reducible refine gate_store (t := 3) (p := 36) rfl ?_); (try (rw [drewN_self wr]; generalize hq_ : World.drewN wr _ = wr; have n0_ := Aside0.mk (Kd.R_at hq_ HO_3.out); have n1_ := Aside0.mk (below_at hq_ HB.out); clear hq_ HO_3 HB; have HO_3 := n0_; have HB := n1_; clear n0_ n1_; (try (have HX24 := Aside0.mk (show Kd.R k38 38 wr w.heap.size (fun _ => True) (.slice (some ⟨go22, 0, none⟩) x3_1.length co23) x3_1 from (by (with_reducible repeat (first | apply Kd.R_alloc | apply Kd.R_drewN | apply Kd.R_drew)); exact HO_3.out)))); (try (obtain ⟨ce24, hcl24, hM24, hcc24, hfr24⟩ := Kd.R_elem HX24.out z38 ((ji19) : Int) (of_decide_eq_true (by first | (with_reducible assumption) | assumption)) (by have h_ : ((ji19) : Int) < ((x3_1.length : Int) : Int) := of_decide_eq_true (by first | (with_reducible assumption) | assumption); first | exact h_ | (have e_ := (Kd.R_reads' HO_3.out).1; omega) | simpa using h_))); (try (obtain rfl := k38_openM hM24)); (try (have HP24 := Kd.R_seg HX24.out ((ji19) : Int) (of_decide_eq_true (by first | (with_reducible assumption) | assumption)) (by have h_ : ((ji19) : Int) < ((x3_1.length : Int) : Int) := of_decide_eq_true (by first | (with_reducible assumption) | assumption); first | exact h_ | (have e_ := (Kd.R_reads' HO_3.out).1; omega) | simpa using h_) (seg := [.int .i64 (wrap64 (x7_1 + 1))]) (j := 1) hcl24 hcc24 (show 2 ≤ 2 from by decide) (x' := (⟨(rd_T38 x3_1 (ji19)).f0, wrap64 (x7_1 + 1)⟩ : S38)) (k38_mkM _ _ _ (⟨(rd_T38 x3_1 (ji19)).f0, wrap64 (x7_1 + 1)⟩ : S38) ) (fun _ hk => hk))); (try (have hx24_1 := hcc24 1 _ rfl)); (try (try simp only [show (k38).sz = 2 from rfl, Nat.mul_one, Nat.add_zero] at hx24_1)); (try (have hf24_1 := hfr24 1)); (try (try simp only [show (k38).sz = 2 from rfl, Nat.mul_one, Nat.add_zero] at hf24_1)); (try (clear hcl24 hcc24 hfr24 hM24)))); refine store_event (t := 3) (p := 36) (v := ?vo_w25) (w1 := (wr.setCell ⟨go22, ((ji19) : Int).toNat * 2 + 1, none⟩ (.int .i64 (wrap64 (x7_1 + 1))))) ?hg ?ho ?hn ?hr ?_; (case ho => rfl); (case hg => rfl); (case hn => rfl); (case hr => first | (go_simp; done) | (go_simp; rfl)); intro w25 hw; have hg : wr.grownBy w25 (some go22) := (by rw [hw]; exact HP24.2); have hp_ : Kd.R k38 38 w25 w.heap.size (fun _ => True) (.slice (some ⟨go22, 0, none⟩) x3_1.length co23) y245 := (by rw [hw, Ny245.out]; exact HP24.1); clear HP24; have n0_ := Aside0.mk (hp_); have n1_ := Aside0.mk ((by rw [hw]; exact below_set (HB.out) GB22.out : Below w.heap.size w w25)); clear HO_3; clear HB; have HO_3 := n0_; have HB := n1_; clear n0_ n1_; clear hg hw hp_))
                        repeat (go_quiet (first | ((with_reducible refine gate_store (t := 3) (p := 36) rfl ?_); (try (rw [drewN_self wr]; generalize hq_ : World.drewN wr _ = wr; have n0_ := Aside0.mk (Kd.R_at hq_ HO_3.out); have n1_ := Aside0.mk (below_at hq_ HB.out); clear hq_ HO_3 HB; have HO_3 := n0_; have HB := n1_; clear n0_ n1_; (try (have HX24 := Aside0.mk (show Kd.R k38 38 wr w.heap.size (fun _ => True) (.slice (some ⟨go22, 0, none⟩) x3_1.length co23) x3_1 from (by (with_reducible repeat (first | apply Kd.R_alloc | apply Kd.R_drewN | apply Kd.R_drew)); exact HO_3.out)))); (try (obtain ⟨ce24, hcl24, hM24, hcc24, hfr24⟩ := Kd.R_elem HX24.out z38 ((ji19) : Int) (of_decide_eq_true (by first | (with_reducible assumption) | assumption)) (by have h_ : ((ji19) : Int) < ((x3_1.length : Int) : Int) := of_decide_eq_true (by first | (with_reducible assumption) | assumption); first | exact h_ | (have e_ := (Kd.R_reads' HO_3.out).1; omega) | simpa using h_))); (try (obtain rfl := k38_openM hM24)); (try (have HP24 := Kd.R_seg HX24.out ((ji19) : Int) (of_decide_eq_true (by first | (with_reducible assumption) | assumption)) (by have h_ : ((ji19) : Int) < ((x3_1.length : Int) : Int) := of_decide_eq_true (by first | (with_reducible assumption) | assumption); first | exact h_ | (have e_ := (Kd.R_reads' HO_3.out).1; omega) | simpa using h_) (seg := [.int .i64 (wrap64 (x7_1 + 1))]) (j := 1) hcl24 hcc24 (show 2 ≤ 2 from by decide) (x' := (⟨(rd_T38 x3_1 (ji19)).f0, wrap64 (x7_1 + 1)⟩ : S38)) (k38_mkM _ _ _ (⟨(rd_T38 x3_1 (ji19)).f0, wrap64 (x7_1 + 1)⟩ : S38) ) (fun _ hk => hk))); (try (have hx24_1 := hcc24 1 _ rfl)); (try (try simp only [show (k38).sz = 2 from rfl, Nat.mul_one, Nat.add_zero] at hx24_1)); (try (have hf24_1 := hfr24 1)); (try (try simp only [show (k38).sz = 2 from rfl, Nat.mul_one, Nat.add_zero] at hf24_1)); (try (clear hcl24 hcc24 hfr24 hM24)))); refine store_event (t := 3) (p := 36) (v := ?vo_w25) (w1 := (wr.setCell ⟨go22, ((ji19) : Int).toNat * 2 + 1, none⟩ (.int .i64 (wrap64 (x7_1 + 1))))) ?hg ?ho ?hn ?hr ?_; (case ho => rfl); (case hg => rfl); (case hn => rfl); (case hr => first | (go_simp; done) | (go_simp; rfl)); intro w25 hw; have hg : wr.grownBy w25 (some go22) := (by rw [hw]; exact HP24.2); have hp_ : Kd.R k38 38 w25 w.heap.size (fun _ => True) (.slice (some ⟨go22, 0, none⟩) x3_1.length co23) y245 := (by rw [hw, Ny245.out]; exact HP24.1); clear HP24; have n0_ := Aside0.mk (hp_); have n1_ := Aside0.mk ((by rw [hw]; exact below_set (HB.out) GB22.out : Below w.heap.size w w25)); clear HO_3; clear HB; have HO_3 := n0_; have HB := n1_; clear n0_ n1_; clear hg hw hp_)); try go_wp2_with (first | ((with_reducible refine gate_store (t := 3) (p := 36) rfl ?_); (try (rw [drewN_self wr]; generalize hq_ : World.drewN wr _ = wr; have n0_ := Aside0.mk (Kd.R_at hq_ HO_3.out); have n1_ := Aside0.mk (below_at hq_ HB.out); clear hq_ HO_3 HB; have HO_3 := n0_; have HB := n1_; clear n0_ n1_; (try (have HX24 := Aside0.mk (show Kd.R k38 38 wr w.heap.size (fun _ => True) (.slice (some ⟨go22, 0, none⟩) x3_1.length co23) x3_1 from (by (with_reducible repeat (first | apply Kd.R_alloc | apply Kd.R_drewN | apply Kd.R_drew)); exact HO_3.out)))); (try (obtain ⟨ce24, hcl24, hM24, hcc24, hfr24⟩ := Kd.R_elem HX24.out z38 ((ji19) : Int) (of_decide_eq_true (by first | (with_reducible assumption) | assumption)) (by have h_ : ((ji19) : Int) < ((x3_1.length : Int) : Int) := of_decide_eq_true (by first | (with_reducible assumption) | assumption); first | exact h_ | (have e_ := (Kd.R_reads' HO_3.out).1; omega) | simpa using h_))); (try (obtain rfl := k38_openM hM24)); (try (have HP24 := Kd.R_seg HX24.out ((ji19) : Int) (of_decide_eq_true (by first | (with_reducible assumption) | assumption)) (by have h_ : ((ji19) : Int) < ((x3_1.length : Int) : Int) := of_decide_eq_true (by first | (with_reducible assumption) | assumption); first | exact h_ | (have e_ := (Kd.R_reads' HO_3.out).1; omega) | simpa using h_) (seg := [.int .i64 (wrap64 (x7_1 + 1))]) (j := 1) hcl24 hcc24 (show 2 ≤ 2 from by decide) (x' := (⟨(rd_T38 x3_1 (ji19)).f0, wrap64 (x7_1 + 1)⟩ : S38)) (k38_mkM _ _ _ (⟨(rd_T38 x3_1 (ji19)).f0, wrap64 (x7_1 + 1)⟩ : S38) ) (fun _ hk => hk))); (try (have hx24_1 := hcc24 1 _ rfl)); (try (try simp only [show (k38).sz = 2 from rfl, Nat.mul_one, Nat.add_zero] at hx24_1)); (try (have hf24_1 := hfr24 1)); (try (try simp only [show (k38).sz = 2 from rfl, Nat.mul_one, Nat.add_zero] at hf24_1)); (try (clear hcl24 hcc24 hfr24 hM24)))); refine store_event (t := 3) (p := 36) (v := ?vo_w25) (w1 := (wr.setCell ⟨go22, ((ji19) : Int).toNat * 2 + 1, none⟩ (.int .i64 (wrap64 (x7_1 + 1))))) ?hg ?ho ?hn ?hr ?_; (case ho => rfl); (case hg => rfl); (case hn => rfl); (case hr => first | (go_simp; done) | (go_simp; rfl)); intro w25 hw; have hg : wr.grownBy w25 (some go22) := (by rw [hw]; exact HP24.2); have hp_ : Kd.R k38 38 w25 w.heap.size (fun _ => True) (.slice (some ⟨go22, 0, none⟩) x3_1.length co23) y245 := (by rw [hw, Ny245.out]; exact HP24.1); clear HP24; have n0_ := Aside0.mk (hp_); have n1_ := Aside0.mk ((by rw [hw]; exact below_set (HB.out) GB22.out : Below w.heap.size w w25)); clear HO_3; clear HB; have HO_3 := n0_; have HB := n1_; clear n0_ n1_; clear hg hw hp_)))
                        go_roundg k1
                        case measure => have := HK1.out; omega
                        case rel => exact ⟨(y245), (wrap64 (x7_1 + 1)), (by first | rfl | (simp; done) | (simp [*]; done)), H', ⟨by have := HK1.out; omega⟩, ⟨by (with_reducible repeat (first | apply Kd.R_alloc | apply Kd.R_drewN | apply Kd.R_drew)); exact HO_3.out⟩, ⟨by repeat (first | (with_reducible first | exact HB.out | apply below_alloc | apply pw_below_drewN | apply below_drew1) | exact HB.out)⟩⟩
                      · rw [if_neg c21] at H
                        exact absurd H (by simp)
                    · rw [if_neg c20] at H
                      exact absurd H (by simp)
                  · rw [if_neg c18] at H
                    have c18b0 : ((rdOf ByteArray.empty l0 x7_1).toList == (rdOf ByteArray.empty l0 (ji15)).toList) = false := beq_eq_false_iff_ne.mpr c18
                    have c18b1 : ((rdOf ByteArray.empty l0 x7_1).toList != (rdOf ByteArray.empty l0 (ji15)).toList) = true := bne_iff_ne.mpr c18
                    by_cases c26 : x3_1.length < 8796093022208
                    · rw [if_pos c26] at H
                      have LMc26 := Aside0.mk c26
                      clear c26
                      obtain ⟨y246, hy246⟩ : ∃ y_ : List (S38), y_ = (x3_1 ++ [(⟨x7_1, 0⟩ : S38)]) := ⟨_, rfl⟩
                      replace H : (if 0 ≤ (wrap64 ((y246.length : Int) - 1)) then (if (wrap64 ((y246.length : Int) - 1)) < (y246.length : Int) then (scripts_runs_string.l0 k1 l0 (y246.set ((wrap64 ((y246.length : Int) - 1)) : Int).toNat (⟨(rd_T38 y246 (wrap64 ((y246.length : Int) - 1))).f0, wrap64 (x7_1 + 1)⟩ : S38)) (l0.length : Int) (wrap64 (x7_1 + 1))) else (none)) else (none)) = some r := by first | (rw [hy246]; with_reducible exact H) | (have H2_ := (Option.bind_some _ _).symm.trans H; rw [hy246]; with_reducible exact H2_) | (have H2_ := (Option.bind_some _ _).symm.trans H; with_reducible exact H2_) | with_reducible exact H | (rw [hy246]; exact H) | exact H
                      have Ny246 := Aside0.mk hy246
                      clear hy246
                      obtain ⟨ji27, hji27⟩ : ∃ j_ : Int, (wrap64 ((y246.length : Int) - 1)) = j_ := ⟨_, rfl⟩
                      replace H : (if 0 ≤ (ji27) then (if (ji27) < (y246.length : Int) then (scripts_runs_string.l0 k1 l0 (y246.set ((ji27) : Int).toNat (⟨(rd_T38 y246 (ji27)).f0, wrap64 (x7_1 + 1)⟩ : S38)) (l0.length : Int) (wrap64 (x7_1 + 1))) else (none)) else (none)) = some r := by first | (rw [hji27] at H; exact H) | (simp only [hji27] at H ⊢; exact H)
                      have hji27w : (IntKind.i64.wrap ((y246.length : Int) - 1)) = ji27 := (i64_w _).trans hji27
                      by_cases c28 : 0 ≤ (ji27)
                      · rw [if_pos c28] at H
                        have c28b0 : decide (0 ≤ (ji27)) = true := decide_eq_true c28
                        clear c28
                        by_cases c29 : (ji27) < (y246.length : Int)
                        · rw [if_pos c29] at H
                          have c29b0 : decide ((ji27) < (y246.length : Int)) = true := decide_eq_true c29
                          clear c29
                          obtain ⟨y249, hy249⟩ : ∃ y_ : List (S38), y_ = (y246.set ((ji27) : Int).toNat (⟨(rd_T38 y246 (ji27)).f0, wrap64 (x7_1 + 1)⟩ : S38)) := ⟨_, rfl⟩
                          replace H : (scripts_runs_string.l0 k1 l0 y249 (l0.length : Int) (wrap64 (x7_1 + 1))) = some r := by first | (rw [hy249]; with_reducible exact H) | (have H2_ := (Option.bind_some _ _).symm.trans H; rw [hy249]; with_reducible exact H2_) | (have H2_ := (Option.bind_some _ _).symm.trans H; with_reducible exact H2_) | with_reducible exact H | (rw [hy249]; exact H) | exact H
                          have Ny249 := Aside0.mk hy249
                          clear hy249
                          have H' := Aside0.mk H
                          clear H
                          have p243 : 0 ≤ (x7_1 : Int) := of_decide_eq_true (by first | (with_reducible assumption) | assumption)
                          have q243 : x7_1 < (l0.length : Int) := of_decide_eq_true (by first | (with_reducible assumption) | assumption)
                          obtain ⟨ad243, e243, hx243_0⟩ := Kd.at_string HR0.out x7_1 p243 q243
                          cases e243
                          replace hx243_0 := (HB.out.cell (World.block_lt_of_cell? w _ hx243_0)).trans hx243_0
                          replace p243 := eq_true p243
                          replace q243 := eq_true q243
                          have p244 : 0 ≤ ((ji15) : Int) := of_decide_eq_true (by first | (with_reducible assumption) | assumption)
                          have q244 : (ji15) < (l0.length : Int) := of_decide_eq_true (by first | (with_reducible assumption) | assumption)
                          obtain ⟨ad244, e244, hx244_0⟩ := Kd.at_string HR0.out (ji15) p244 q244
                          obtain rfl : ad243 = ad244 := (by injection e244)
                          replace hx244_0 := (HB.out.cell (World.block_lt_of_cell? w _ hx244_0)).trans hx244_0
                          replace p244 := eq_true p244
                          replace q244 := eq_true q244
                          go_wp2_with (first | ((with_reducible refine gate_builtin (b := .append) (xs := #[.tmp 24, .tmp 27]) rfl ?_); at_builtin; refine Kd.R_append k38 (w0 := w) w.heap.size rfl (.tmp 24) (.tmp 27) 29 38 (.agg #[(.int .i64 0), (.int .i64 0)]) 16 rfl Try.underlying29 info38 rfl (by decide) (by omega) u3 x3_1 (⟨x7_1, 0⟩ : S38) [.int .i64 x7_1, .int .i64 0] (fun _ => True) (fun _ => False) rfl rfl ?aP (fun _ hk => hk.elim) ?aF ?aO ?aB ?aS ?aL ?_; (case aP => exact k38_mkM _ _ _ (⟨x7_1, 0⟩ : S38)); (case aB => exact (by repeat (first | (with_reducible first | exact HB.out | apply below_alloc | apply pw_below_drewN | apply below_drew1) | exact HB.out))); (case aF => exact (fun _ _ => trivial)); (case aO => exact (by (with_reducible repeat (first | apply Kd.R_alloc | apply Kd.R_drewN | apply Kd.R_drew)); exact HO_3.out)); (case aS => exact (below_size (by repeat (first | (with_reducible first | exact HB.out | apply below_alloc | apply pw_below_drewN | apply below_drew1) | exact HB.out)))); (case aL => have := LMc26.out; omega); intro v247 w31 ho hb hg hat; rw [← Ny246.out] at ho; have n0_ := Aside0.mk (hb); have n1_ := Aside0.mk (ho); clear HB; clear HO_3; have HB := n0_; have HO248 := n1_; clear n0_ n1_; clear ho hb hg hat; obtain ⟨Ao32, co32, eo32⟩ := Kd.R_slice HO248.out; subst eo32; have p30 : 0 ≤ ((ji27) : Int) := of_decide_eq_true (by first | (with_reducible assumption) | assumption); have q30 : ((ji27) : Int) < ((y246.length : Int) : Int) := of_decide_eq_true (by first | (with_reducible assumption) | assumption); obtain ⟨go30, co30, eo30, gb30, gl30, cl30, HG30⟩ := Kd.R_form HO248.out (by omega); (first | cases eo30 | (injection eo30 with ea_ en_ ec_; (first | subst ea_ | (injection ea_ with ea_; subst ea_)); subst ec_; clear en_)); have GB30 := Aside0.mk gb30; have GG30 := Aside0.mk HG30; clear gb30 gl30 HG30; obtain ⟨ce30, hcl30, hM30, hcc30, hfr30⟩ := Kd.R_elem HO248.out z38 ((ji27) : Int) p30 q30; obtain rfl := k38_openM hM30; have hx30_0 : w31.cell? ⟨go30, ((ji27) : Int).toNat * 2, none⟩ = some (.int .i64 ((rd_T38 y246 (ji27)).f0)) := hcc30 0 _ rfl; have hx30_1 : w31.cell? ⟨go30, ((ji27) : Int).toNat * 2 + 1, none⟩ = some (.int .i64 ((rd_T38 y246 (ji27)).f1)) := hcc30 1 _ rfl; have hf30_0 : w31.frozen? ⟨go30, ((ji27) : Int).toNat * 2, none⟩ = false := hfr30 0; have hf30_1 : w31.frozen? ⟨go30, ((ji27) : Int).toNat * 2 + 1, none⟩ = false := hfr30 1; clear hcl30 hcc30 hfr30 hM30; replace p30 := eq_true p30; replace q30 := eq_true q30; have HX33 := Aside0.mk (show Kd.R k38 38 w31 w.heap.size (fun _ => True) (.slice (some ⟨go30, 0, none⟩) y246.length co32) y246 from (by (with_reducible repeat (first | apply Kd.R_alloc | apply Kd.R_drewN | apply Kd.R_drew)); exact HO248.out)); obtain ⟨ce33, hcl33, hM33, hcc33, hfr33⟩ := Kd.R_elem HX33.out z38 ((ji27) : Int) (of_decide_eq_true (by first | (with_reducible assumption) | assumption)) (by have h_ : ((ji27) : Int) < ((y246.length : Int) : Int) := of_decide_eq_true (by first | (with_reducible assumption) | assumption); first | exact h_ | (have e_ := (Kd.R_reads' HO248.out).1; omega) | simpa using h_); obtain rfl := k38_openM hM33; have HP33 := Kd.R_seg HX33.out ((ji27) : Int) (of_decide_eq_true (by first | (with_reducible assumption) | assumption)) (by have h_ : ((ji27) : Int) < ((y246.length : Int) : Int) := of_decide_eq_true (by first | (with_reducible assumption) | assumption); first | exact h_ | (have e_ := (Kd.R_reads' HO248.out).1; omega) | simpa using h_) (seg := [.int .i64 (wrap64 (x7_1 + 1))]) (j := 1) hcl33 hcc33 (show 2 ≤ 2 from by decide) (x' := (⟨(rd_T38 y246 (ji27)).f0, wrap64 (x7_1 + 1)⟩ : S38)) (k38_mkM _ _ _ (⟨(rd_T38 y246 (ji27)).f0, wrap64 (x7_1 + 1)⟩ : S38) ) (fun _ hk => hk); have hx33_1 := hcc33 1 _ rfl; (try simp only [show (k38).sz = 2 from rfl, Nat.mul_one, Nat.add_zero] at hx33_1); have hf33_1 := hfr33 1; (try simp only [show (k38).sz = 2 from rfl, Nat.mul_one, Nat.add_zero] at hf33_1); clear hcl33 hcc33 hfr33 hM33) | ((with_reducible refine gate_store (t := 3) (p := 36) rfl ?_); (try (rw [drewN_self w31]; generalize hq_ : World.drewN w31 _ = w31; have n0_ := Aside0.mk (Kd.R_at hq_ HO248.out); have n1_ := Aside0.mk (below_at hq_ HB.out); clear hq_ HO248 HB; have HO248 := n0_; have HB := n1_; clear n0_ n1_; (try (have HX33 := Aside0.mk (show Kd.R k38 38 w31 w.heap.size (fun _ => True) (.slice (some ⟨go30, 0, none⟩) y246.length co32) y246 from (by (with_reducible repeat (first | apply Kd.R_alloc | apply Kd.R_drewN | apply Kd.R_drew)); exact HO248.out)))); (try (obtain ⟨ce33, hcl33, hM33, hcc33, hfr33⟩ := Kd.R_elem HX33.out z38 ((ji27) : Int) (of_decide_eq_true (by first | (with_reducible assumption) | assumption)) (by have h_ : ((ji27) : Int) < ((y246.length : Int) : Int) := of_decide_eq_true (by first | (with_reducible assumption) | assumption); first | exact h_ | (have e_ := (Kd.R_reads' HO248.out).1; omega) | simpa using h_))); (try (obtain rfl := k38_openM hM33)); (try (have HP33 := Kd.R_seg HX33.out ((ji27) : Int) (of_decide_eq_true (by first | (with_reducible assumption) | assumption)) (by have h_ : ((ji27) : Int) < ((y246.length : Int) : Int) := of_decide_eq_true (by first | (with_reducible assumption) | assumption); first | exact h_ | (have e_ := (Kd.R_reads' HO248.out).1; omega) | simpa using h_) (seg := [.int .i64 (wrap64 (x7_1 + 1))]) (j := 1) hcl33 hcc33 (show 2 ≤ 2 from by decide) (x' := (⟨(rd_T38 y246 (ji27)).f0, wrap64 (x7_1 + 1)⟩ : S38)) (k38_mkM _ _ _ (⟨(rd_T38 y246 (ji27)).f0, wrap64 (x7_1 + 1)⟩ : S38) ) (fun _ hk => hk))); (try (have hx33_1 := hcc33 1 _ rfl)); (try (try simp only [show (k38).sz = 2 from rfl, Nat.mul_one, Nat.add_zero] at hx33_1)); (try (have hf33_1 := hfr33 1)); (try (try simp only [show (k38).sz = 2 from rfl, Nat.mul_one, Nat.add_zero] at hf33_1)); (try (clear hcl33 hcc33 hfr33 hM33)))); refine store_event (t := 3) (p := 36) (v := ?vo_w34) (w1 := (w31.setCell ⟨go30, ((ji27) : Int).toNat * 2 + 1, none⟩ (.int .i64 (wrap64 (x7_1 + 1))))) ?hg ?ho ?hn ?hr ?_; (case ho => rfl); (case hg => rfl); (case hn => rfl); (case hr => first | (go_simp; done) | (go_simp; rfl)); intro w34 hw; have hg : w31.grownBy w34 (some go30) := (by rw [hw]; exact HP33.2); have hp_ : Kd.R k38 38 w34 w.heap.size (fun _ => True) (.slice (some ⟨go30, 0, none⟩) y246.length co32) y249 := (by rw [hw, Ny249.out]; exact HP33.1); clear HP33; have n0_ := Aside0.mk (hp_); have n1_ := Aside0.mk ((by rw [hw]; exact below_set (HB.out) GB30.out : Below w.heap.size w w34)); clear HO248; clear HB; have HO248 := n0_; have HB := n1_; clear n0_ n1_; clear hg hw hp_))
                          repeat (go_quiet (first | ((with_reducible refine gate_builtin (b := .append) (xs := #[.tmp 24, .tmp 27]) rfl ?_); at_builtin; refine Kd.R_append k38 (w0 := w) w.heap.size rfl (.tmp 24) (.tmp 27) 29 38 (.agg #[(.int .i64 0), (.int .i64 0)]) 16 rfl Try.underlying29 info38 rfl (by decide) (by omega) u3 x3_1 (⟨x7_1, 0⟩ : S38) [.int .i64 x7_1, .int .i64 0] (fun _ => True) (fun _ => False) rfl rfl ?aP (fun _ hk => hk.elim) ?aF ?aO ?aB ?aS ?aL ?_; (case aP => exact k38_mkM _ _ _ (⟨x7_1, 0⟩ : S38)); (case aB => exact (by repeat (first | (with_reducible first | exact HB.out | apply below_alloc | apply pw_below_drewN | apply below_drew1) | exact HB.out))); (case aF => exact (fun _ _ => trivial)); (case aO => exact (by (with_reducible repeat (first | apply Kd.R_alloc | apply Kd.R_drewN | apply Kd.R_drew)); exact HO_3.out)); (case aS => exact (below_size (by repeat (first | (with_reducible first | exact HB.out | apply below_alloc | apply pw_below_drewN | apply below_drew1) | exact HB.out)))); (case aL => have := LMc26.out; omega); intro v247 w31 ho hb hg hat; rw [← Ny246.out] at ho; have n0_ := Aside0.mk (hb); have n1_ := Aside0.mk (ho); clear HB; clear HO_3; have HB := n0_; have HO248 := n1_; clear n0_ n1_; clear ho hb hg hat; obtain ⟨Ao32, co32, eo32⟩ := Kd.R_slice HO248.out; subst eo32; have p30 : 0 ≤ ((ji27) : Int) := of_decide_eq_true (by first | (with_reducible assumption) | assumption); have q30 : ((ji27) : Int) < ((y246.length : Int) : Int) := of_decide_eq_true (by first | (with_reducible assumption) | assumption); obtain ⟨go30, co30, eo30, gb30, gl30, cl30, HG30⟩ := Kd.R_form HO248.out (by omega); (first | cases eo30 | (injection eo30 with ea_ en_ ec_; (first | subst ea_ | (injection ea_ with ea_; subst ea_)); subst ec_; clear en_)); have GB30 := Aside0.mk gb30; have GG30 := Aside0.mk HG30; clear gb30 gl30 HG30; obtain ⟨ce30, hcl30, hM30, hcc30, hfr30⟩ := Kd.R_elem HO248.out z38 ((ji27) : Int) p30 q30; obtain rfl := k38_openM hM30; have hx30_0 : w31.cell? ⟨go30, ((ji27) : Int).toNat * 2, none⟩ = some (.int .i64 ((rd_T38 y246 (ji27)).f0)) := hcc30 0 _ rfl; have hx30_1 : w31.cell? ⟨go30, ((ji27) : Int).toNat * 2 + 1, none⟩ = some (.int .i64 ((rd_T38 y246 (ji27)).f1)) := hcc30 1 _ rfl; have hf30_0 : w31.frozen? ⟨go30, ((ji27) : Int).toNat * 2, none⟩ = false := hfr30 0; have hf30_1 : w31.frozen? ⟨go30, ((ji27) : Int).toNat * 2 + 1, none⟩ = false := hfr30 1; clear hcl30 hcc30 hfr30 hM30; replace p30 := eq_true p30; replace q30 := eq_true q30; have HX33 := Aside0.mk (show Kd.R k38 38 w31 w.heap.size (fun _ => True) (.slice (some ⟨go30, 0, none⟩) y246.length co32) y246 from (by (with_reducible repeat (first | apply Kd.R_alloc | apply Kd.R_drewN | apply Kd.R_drew)); exact HO248.out)); obtain ⟨ce33, hcl33, hM33, hcc33, hfr33⟩ := Kd.R_elem HX33.out z38 ((ji27) : Int) (of_decide_eq_true (by first | (with_reducible assumption) | assumption)) (by have h_ : ((ji27) : Int) < ((y246.length : Int) : Int) := of_decide_eq_true (by first | (with_reducible assumption) | assumption); first | exact h_ | (have e_ := (Kd.R_reads' HO248.out).1; omega) | simpa using h_); obtain rfl := k38_openM hM33; have HP33 := Kd.R_seg HX33.out ((ji27) : Int) (of_decide_eq_true (by first | (with_reducible assumption) | assumption)) (by have h_ : ((ji27) : Int) < ((y246.length : Int) : Int) := of_decide_eq_true (by first | (with_reducible assumption) | assumption); first | exact h_ | (have e_ := (Kd.R_reads' HO248.out).1; omega) | simpa using h_) (seg := [.int .i64 (wrap64 (x7_1 + 1))]) (j := 1) hcl33 hcc33 (show 2 ≤ 2 from by decide) (x' := (⟨(rd_T38 y246 (ji27)).f0, wrap64 (x7_1 + 1)⟩ : S38)) (k38_mkM _ _ _ (⟨(rd_T38 y246 (ji27)).f0, wrap64 (x7_1 + 1)⟩ : S38) ) (fun _ hk => hk); have hx33_1 := hcc33 1 _ rfl; (try simp only [show (k38).sz = 2 from rfl, Nat.mul_one, Nat.add_zero] at hx33_1); have hf33_1 := hfr33 1; (try simp only [show (k38).sz = 2 from rfl, Nat.mul_one, Nat.add_zero] at hf33_1); clear hcl33 hcc33 hfr33 hM33) | ((with_reducible refine gate_store (t := 3) (p := 36) rfl ?_); (try (rw [drewN_self w31]; generalize hq_ : World.drewN w31 _ = w31; have n0_ := Aside0.mk (Kd.R_at hq_ HO248.out); have n1_ := Aside0.mk (below_at hq_ HB.out); clear hq_ HO248 HB; have HO248 := n0_; have HB := n1_; clear n0_ n1_; (try (have HX33 := Aside0.mk (show Kd.R k38 38 w31 w.heap.size (fun _ => True) (.slice (some ⟨go30, 0, none⟩) y246.length co32) y246 from (by (with_reducible repeat (first | apply Kd.R_alloc | apply Kd.R_drewN | apply Kd.R_drew)); exact HO248.out)))); (try (obtain ⟨ce33, hcl33, hM33, hcc33, hfr33⟩ := Kd.R_elem HX33.out z38 ((ji27) : Int) (of_decide_eq_true (by first | (with_reducible assumption) | assumption)) (by have h_ : ((ji27) : Int) < ((y246.length : Int) : Int) := of_decide_eq_true (by first | (with_reducible assumption) | assumption); first | exact h_ | (have e_ := (Kd.R_reads' HO248.out).1; omega) | simpa using h_))); (try (obtain rfl := k38_openM hM33)); (try (have HP33 := Kd.R_seg HX33.out ((ji27) : Int) (of_decide_eq_true (by first | (with_reducible assumption) | assumption)) (by have h_ : ((ji27) : Int) < ((y246.length : Int) : Int) := of_decide_eq_true (by first | (with_reducible assumption) | assumption); first | exact h_ | (have e_ := (Kd.R_reads' HO248.out).1; omega) | simpa using h_) (seg := [.int .i64 (wrap64 (x7_1 + 1))]) (j := 1) hcl33 hcc33 (show 2 ≤ 2 from by decide) (x' := (⟨(rd_T38 y246 (ji27)).f0, wrap64 (x7_1 + 1)⟩ : S38)) (k38_mkM _ _ _ (⟨(rd_T38 y246 (ji27)).f0, wrap64 (x7_1 + 1)⟩ : S38) ) (fun _ hk => hk))); (try (have hx33_1 := hcc33 1 _ rfl)); (try (try simp only [show (k38).sz = 2 from rfl, Nat.mul_one, Nat.add_zero] at hx33_1)); (try (have hf33_1 := hfr33 1)); (try (try simp only [show (k38).sz = 2 from rfl, Nat.mul_one, Nat.add_zero] at hf33_1)); (try (clear hcl33 hcc33 hfr33 hM33)))); refine store_event (t := 3) (p := 36) (v := ?vo_w34) (w1 := (w31.setCell ⟨go30, ((ji27) : Int).toNat * 2 + 1, none⟩ (.int .i64 (wrap64 (x7_1 + 1))))) ?hg ?ho ?hn ?hr ?_; (case ho => rfl); (case hg => rfl); (case hn => rfl); (case hr => first | (go_simp; done) | (go_simp; rfl)); intro w34 hw; have hg : w31.grownBy w34 (some go30) := (by rw [hw]; exact HP33.2); have hp_ : Kd.R k38 38 w34 w.heap.size (fun _ => True) (.slice (some ⟨go30, 0, none⟩) y246.length co32) y249 := (by rw [hw, Ny249.out]; exact HP33.1); clear HP33; have n0_ := Aside0.mk (hp_); have n1_ := Aside0.mk ((by rw [hw]; exact below_set (HB.out) GB30.out : Below w.heap.size w w34)); clear HO248; clear HB; have HO248 := n0_; have HB := n1_; clear n0_ n1_; clear hg hw hp_)); try go_wp2_with (first | ((with_reducible refine gate_builtin (b := .append) (xs := #[.tmp 24, .tmp 27]) rfl ?_); at_builtin; refine Kd.R_append k38 (w0 := w) w.heap.size rfl (.tmp 24) (.tmp 27) 29 38 (.agg #[(.int .i64 0), (.int .i64 0)]) 16 rfl Try.underlying29 info38 rfl (by decide) (by omega) u3 x3_1 (⟨x7_1, 0⟩ : S38) [.int .i64 x7_1, .int .i64 0] (fun _ => True) (fun _ => False) rfl rfl ?aP (fun _ hk => hk.elim) ?aF ?aO ?aB ?aS ?aL ?_; (case aP => exact k38_mkM _ _ _ (⟨x7_1, 0⟩ : S38)); (case aB => exact (by repeat (first | (with_reducible first | exact HB.out | apply below_alloc | apply pw_below_drewN | apply below_drew1) | exact HB.out))); (case aF => exact (fun _ _ => trivial)); (case aO => exact (by (with_reducible repeat (first | apply Kd.R_alloc | apply Kd.R_drewN | apply Kd.R_drew)); exact HO_3.out)); (case aS => exact (below_size (by repeat (first | (with_reducible first | exact HB.out | apply below_alloc | apply pw_below_drewN | apply below_drew1) | exact HB.out)))); (case aL => have := LMc26.out; omega); intro v247 w31 ho hb hg hat; rw [← Ny246.out] at ho; have n0_ := Aside0.mk (hb); have n1_ := Aside0.mk (ho); clear HB; clear HO_3; have HB := n0_; have HO248 := n1_; clear n0_ n1_; clear ho hb hg hat; obtain ⟨Ao32, co32, eo32⟩ := Kd.R_slice HO248.out; subst eo32; have p30 : 0 ≤ ((ji27) : Int) := of_decide_eq_true (by first | (with_reducible assumption) | assumption); have q30 : ((ji27) : Int) < ((y246.length : Int) : Int) := of_decide_eq_true (by first | (with_reducible assumption) | assumption); obtain ⟨go30, co30, eo30, gb30, gl30, cl30, HG30⟩ := Kd.R_form HO248.out (by omega); (first | cases eo30 | (injection eo30 with ea_ en_ ec_; (first | subst ea_ | (injection ea_ with ea_; subst ea_)); subst ec_; clear en_)); have GB30 := Aside0.mk gb30; have GG30 := Aside0.mk HG30; clear gb30 gl30 HG30; obtain ⟨ce30, hcl30, hM30, hcc30, hfr30⟩ := Kd.R_elem HO248.out z38 ((ji27) : Int) p30 q30; obtain rfl := k38_openM hM30; have hx30_0 : w31.cell? ⟨go30, ((ji27) : Int).toNat * 2, none⟩ = some (.int .i64 ((rd_T38 y246 (ji27)).f0)) := hcc30 0 _ rfl; have hx30_1 : w31.cell? ⟨go30, ((ji27) : Int).toNat * 2 + 1, none⟩ = some (.int .i64 ((rd_T38 y246 (ji27)).f1)) := hcc30 1 _ rfl; have hf30_0 : w31.frozen? ⟨go30, ((ji27) : Int).toNat * 2, none⟩ = false := hfr30 0; have hf30_1 : w31.frozen? ⟨go30, ((ji27) : Int).toNat * 2 + 1, none⟩ = false := hfr30 1; clear hcl30 hcc30 hfr30 hM30; replace p30 := eq_true p30; replace q30 := eq_true q30; have HX33 := Aside0.mk (show Kd.R k38 38 w31 w.heap.size (fun _ => True) (.slice (some ⟨go30, 0, none⟩) y246.length co32) y246 from (by (with_reducible repeat (first | apply Kd.R_alloc | apply Kd.R_drewN | apply Kd.R_drew)); exact HO248.out)); obtain ⟨ce33, hcl33, hM33, hcc33, hfr33⟩ := Kd.R_elem HX33.out z38 ((ji27) : Int) (of_decide_eq_true (by first | (with_reducible assumption) | assumption)) (by have h_ : ((ji27) : Int) < ((y246.length : Int) : Int) := of_decide_eq_true (by first | (with_reducible assumption) | assumption); first | exact h_ | (have e_ := (Kd.R_reads' HO248.out).1; omega) | simpa using h_); obtain rfl := k38_openM hM33; have HP33 := Kd.R_seg HX33.out ((ji27) : Int) (of_decide_eq_true (by first | (with_reducible assumption) | assumption)) (by have h_ : ((ji27) : Int) < ((y246.length : Int) : Int) := of_decide_eq_true (by first | (with_reducible assumption) | assumption); first | exact h_ | (have e_ := (Kd.R_reads' HO248.out).1; omega) | simpa using h_) (seg := [.int .i64 (wrap64 (x7_1 + 1))]) (j := 1) hcl33 hcc33 (show 2 ≤ 2 from by decide) (x' := (⟨(rd_T38 y246 (ji27)).f0, wrap64 (x7_1 + 1)⟩ : S38)) (k38_mkM _ _ _ (⟨(rd_T38 y246 (ji27)).f0, wrap64 (x7_1 + 1)⟩ : S38) ) (fun _ hk => hk); have hx33_1 := hcc33 1 _ rfl; (try simp only [show (k38).sz = 2 from rfl, Nat.mul_one, Nat.add_zero] at hx33_1); have hf33_1 := hfr33 1; (try simp only [show (k38).sz = 2 from rfl, Nat.mul_one, Nat.add_zero] at hf33_1); clear hcl33 hcc33 hfr33 hM33) | ((with_reducible refine gate_store (t := 3) (p := 36) rfl ?_); (try (rw [drewN_self w31]; generalize hq_ : World.drewN w31 _ = w31; have n0_ := Aside0.mk (Kd.R_at hq_ HO248.out); have n1_ := Aside0.mk (below_at hq_ HB.out); clear hq_ HO248 HB; have HO248 := n0_; have HB := n1_; clear n0_ n1_; (try (have HX33 := Aside0.mk (show Kd.R k38 38 w31 w.heap.size (fun _ => True) (.slice (some ⟨go30, 0, none⟩) y246.length co32) y246 from (by (with_reducible repeat (first | apply Kd.R_alloc | apply Kd.R_drewN | apply Kd.R_drew)); exact HO248.out)))); (try (obtain ⟨ce33, hcl33, hM33, hcc33, hfr33⟩ := Kd.R_elem HX33.out z38 ((ji27) : Int) (of_decide_eq_true (by first | (with_reducible assumption) | assumption)) (by have h_ : ((ji27) : Int) < ((y246.length : Int) : Int) := of_decide_eq_true (by first | (with_reducible assumption) | assumption); first | exact h_ | (have e_ := (Kd.R_reads' HO248.out).1; omega) | simpa using h_))); (try (obtain rfl := k38_openM hM33)); (try (have HP33 := Kd.R_seg HX33.out ((ji27) : Int) (of_decide_eq_true (by first | (with_reducible assumption) | assumption)) (by have h_ : ((ji27) : Int) < ((y246.length : Int) : Int) := of_decide_eq_true (by first | (with_reducible assumption) | assumption); first | exact h_ | (have e_ := (Kd.R_reads' HO248.out).1; omega) | simpa using h_) (seg := [.int .i64 (wrap64 (x7_1 + 1))]) (j := 1) hcl33 hcc33 (show 2 ≤ 2 from by decide) (x' := (⟨(rd_T38 y246 (ji27)).f0, wrap64 (x7_1 + 1)⟩ : S38)) (k38_mkM _ _ _ (⟨(rd_T38 y246 (ji27)).f0, wrap64 (x7_1 + 1)⟩ : S38) ) (fun _ hk => hk))); (try (have hx33_1 := hcc33 1 _ rfl)); (try (try simp only [show (k38).sz = 2 from rfl, Nat.mul_one, Nat.add_zero] at hx33_1)); (try (have hf33_1 := hfr33 1)); (try (try simp only [show (k38).sz = 2 from rfl, Nat.mul_one, Nat.add_zero] at hf33_1)); (try (clear hcl33 hcc33 hfr33 hM33)))); refine store_event (t := 3) (p := 36) (v := ?vo_w34) (w1 := (w31.setCell ⟨go30, ((ji27) : Int).toNat * 2 + 1, none⟩ (.int .i64 (wrap64 (x7_1 + 1))))) ?hg ?ho ?hn ?hr ?_; (case ho => rfl); (case hg => rfl); (case hn => rfl); (case hr => first | (go_simp; done) | (go_simp; rfl)); intro w34 hw; have hg : w31.grownBy w34 (some go30) := (by rw [hw]; exact HP33.2); have hp_ : Kd.R k38 38 w34 w.heap.size (fun _ => True) (.slice (some ⟨go30, 0, none⟩) y246.length co32) y249 := (by rw [hw, Ny249.out]; exact HP33.1); clear HP33; have n0_ := Aside0.mk (hp_); have n1_ := Aside0.mk ((by rw [hw]; exact below_set (HB.out) GB30.out : Below w.heap.size w w34)); clear HO248; clear HB; have HO248 := n0_; have HB := n1_; clear n0_ n1_; clear hg hw hp_)))
                          go_roundg k1
                          case measure => have := HK1.out; omega
                          case rel => exact ⟨(y249), (wrap64 (x7_1 + 1)), (by first | rfl | (simp; done) | (simp [*]; done)), H', ⟨by have := HK1.out; omega⟩, ⟨by (with_reducible repeat (first | apply Kd.R_alloc | apply Kd.R_drewN | apply Kd.R_drew)); exact HO248.out⟩, ⟨by repeat (first | (with_reducible first | exact HB.out | apply below_alloc | apply pw_below_drewN | apply below_drew1) | exact HB.out)⟩⟩
                        · rw [if_neg c29] at H
                          exact absurd H (by simp)
                      · rw [if_neg c28] at H
                        exact absurd H (by simp)
                    · rw [if_neg c26] at H
                      exact absurd H (by simp)
                · rw [if_neg c17] at H
                  exact absurd H (by simp)
              · rw [if_neg c16] at H
                exact absurd H (by simp)
            · rw [if_neg c14] at H
              exact absurd H (by simp)
          · rw [if_neg c13] at H
            exact absurd H (by simp)
      · rw [if_neg c2] at H
        have c2b0 : decide (x7_1 < (l0.length : Int)) = false := decide_eq_false c2
        clear c2
        obtain rfl := Option.some.inj H
        go_wp2
        repeat (go_quiet (fail); try go_wp2)
        go_ret
        exact ⟨_, by first | rfl | (simp [errW_none, errW_some] <;> rfl) | (simp [*, errW_none, errW_some] <;> rfl), by (with_reducible repeat (first | apply Kd.R_alloc | apply Kd.R_drewN | apply Kd.R_drew)); exact HO_3.out, by repeat (first | (with_reducible first | exact HB.out | apply below_alloc | apply pw_below_drewN | apply below_drew1) | exact HB.out)⟩

/-! ### prelude runs -/
abbrev Rg := S38
theorem w64 (n : Int) (h1 : -9223372036854775808 ≤ n) (h2 : n ≤ 9223372036854775807) : wrap64 n = n := by unfold wrap64; omega
/-- the run that began at lo and stands at i, with what is left -/
def growR : List ByteArray → Nat → Nat → ByteArray → List Rg
  | [], lo, i, _ => [⟨lo, i⟩]
  | y :: r, lo, i, x => if y = x then growR r lo (i + 1) x else ⟨lo, i⟩ :: growR r i (i + 1) y
def runsB : List ByteArray → List Rg
  | [] => []
  | x :: r => growR r 0 1 x
theorem set_last {α : Type} (d : List α) (a b z : α) (n : Nat) (h : (d ++ [a]).length = n + 1) : (d ++ [a]).set n b = d ++ [b] ∧ (d ++ [a]).getD n z = a := by
  rw [List.length_append, List.length_singleton] at h
  have e : n = d.length := by omega
  subst e
  refine ⟨?_, ?_⟩
  · rw [List.set_append, if_neg (by omega), Nat.sub_self]; rfl
  · rw [List.getD_eq_getElem?_getD, List.getElem?_append_right (Nat.le_refl _), Nat.sub_self]; rfl
theorem runs_l0 (l : List ByteArray) (hl : l.length ≤ 1000000) : ∀ (r : List ByteArray) (lo i : Nat) (x : ByteArray) (done : List Rg) (k : Nat), l.drop i = r → 1 ≤ i → i ≤ l.length → l.getD (i - 1) ByteArray.empty = x → done.length ≤ i → r.length < k →
    scripts_runs_string.l0 k l (done ++ [⟨lo, i⟩]) (l.length : Int) (i : Int) = some (done ++ growR r lo i x) := by
  intro r
  induction r with
  | nil =>
    intro lo i x done k hd h1 h2 hx hdn hk
    have hi : l.length ≤ i := by have := congrArg List.length hd; rw [List.length_drop, List.length_nil] at this; omega
    cases k with
    | zero => exact absurd hk (Nat.not_lt_zero _)
    | succ k =>
      rw [scripts_runs_string.l0, if_neg (by omega)]; rfl
  | cons y r ih =>
    intro lo i x done k hd h1 h2 hx hdn hk
    have hi : i < l.length := by have := congrArg List.length hd; rw [List.length_drop, List.length_cons] at this; omega
    have hy : l.getD i ByteArray.empty = y := by
      have h3 := drop_at l ByteArray.empty i hi
      rw [hd] at h3
      exact (List.cons.inj h3).1.symm
    have hd' : l.drop (i + 1) = r := by
      have h3 := drop_at l ByteArray.empty i hi
      rw [hd] at h3
      exact (List.cons.inj h3).2.symm
    cases k with
    | zero => exact absurd hk (Nat.not_lt_zero _)
    | succ k =>
      rw [List.length_cons] at hk
      have hwi : wrap64 ((i : Int) + 1) = ((i + 1 : Nat) : Int) := by rw [w64 _ (by omega) (by omega)]; rfl
      have hwp : wrap64 ((i : Int) - 1) = ((i - 1 : Nat) : Int) := by rw [w64 _ (by omega) (by omega)]; omega
      have ha : (done ++ [(⟨lo, i⟩ : Rg)]).length = done.length + 1 := by rw [List.length_append, List.length_singleton]
      have hb : ((done ++ [(⟨lo, i⟩ : Rg)]) ++ [(⟨i, 0⟩ : Rg)]).length = (done.length + 1) + 1 := by rw [List.length_append, ha, List.length_singleton]
      have hwa : wrap64 (((done ++ [(⟨lo, i⟩ : Rg)]).length : Int) - 1) = (done.length : Int) := by rw [ha, w64 _ (by omega) (by omega)]; omega
      have hwb : wrap64 ((((done ++ [(⟨lo, i⟩ : Rg)]) ++ [(⟨i, 0⟩ : Rg)]).length : Int) - 1) = ((done.length + 1 : Nat) : Int) := by rw [hb, w64 _ (by omega) (by omega)]; omega
      rw [scripts_runs_string.l0, if_pos (by omega), if_neg (by omega), if_pos (by omega), if_pos (by omega), hwp, if_pos (by omega), if_pos (by omega)]
      have e1 : (rdOf ByteArray.empty l (i : Int)) = y := hy
      have e2 : (rdOf ByteArray.empty l ((i - 1 : Nat) : Int)) = x := hx
      rw [e1, e2]
      unfold growR
      by_cases hyx : y = x
      · rw [if_pos hyx, if_pos (by rw [hyx]), hwa, if_pos (by omega), if_pos (by omega), hwi]
        have hs := set_last done (⟨lo, i⟩ : Rg) (⟨lo, ((i + 1 : Nat) : Int)⟩ : Rg) z38 done.length (by rw [ha])
        have e3 : (rd_T38 (done ++ [(⟨lo, i⟩ : Rg)]) (done.length : Int)) = ⟨lo, i⟩ := hs.2
        rw [e3]
        have e4 : ((done.length : Int)).toNat = done.length := rfl
        rw [e4, hs.1]
        exact ih lo (i + 1) x done k hd' (by omega) hi (by rw [Nat.add_sub_cancel, hy, hyx]) (by omega) (by omega)
      · rw [if_neg hyx, if_neg (fun h => hyx ((bs_eq y x).1 h)), if_pos (by omega)]
        show (if 0 ≤ (wrap64 ((((done ++ [(⟨lo, i⟩ : Rg)]) ++ [(⟨i, 0⟩ : Rg)]).length : Int) - 1)) then _ else none) = _
        rw [hwb, if_pos (by omega), if_pos (by omega), hwi]
        have hs := set_last (done ++ [(⟨lo, i⟩ : Rg)]) (⟨i, 0⟩ : Rg) (⟨i, ((i + 1 : Nat) : Int)⟩ : Rg) z38 (done.length + 1) (by rw [hb])
        have e3 : (rd_T38 ((done ++ [(⟨lo, i⟩ : Rg)]) ++ [(⟨i, 0⟩ : Rg)]) ((done.length + 1 : Nat) : Int)) = ⟨i, 0⟩ := hs.2
        rw [e3]
        have e4 : (((done.length + 1 : Nat) : Int)).toNat = done.length + 1 := rfl
        rw [e4, hs.1]
        have := ih i (i + 1) y (done ++ [(⟨lo, i⟩ : Rg)]) k hd' (by omega) hi (by rw [Nat.add_sub_cancel, hy]) (by rw [ha]; omega) (by omega)
        rw [this, List.append_assoc]; rfl
theorem runs_f (l : List ByteArray) (hl : l.length ≤ 1000000) (k : Nat) (hk : l.length < k) : scripts_runs_string.f k l = some (runsB l) := by
  unfold scripts_runs_string.f
  cases k with
  | zero => exact absurd hk (Nat.not_lt_zero _)
  | succ k =>
    cases l with
    | nil => rw [scripts_runs_string.l0, if_neg (by simp)]; rfl
    | cons x r =>
      have hwi : wrap64 ((0 : Int) + 1) = ((1 : Nat) : Int) := by rw [w64 _ (by omega) (by omega)]; rfl
      rw [scripts_runs_string.l0, if_pos (by rw [List.length_cons]; omega), if_pos rfl, if_pos (by simp)]
      show (if 0 ≤ (wrap64 ((([] ++ [(⟨0, 0⟩ : Rg)]).length : Int) - 1)) then _ else none) = _
      have hwb : wrap64 ((([] ++ [(⟨0, 0⟩ : Rg)]).length : Int) - 1) = 0 := by rw [w64 _ (by simp) (by simp)]; rfl
      rw [hwb, if_pos (by omega), if_pos (by simp), hwi]
      exact runs_l0 (x :: r) hl r 0 1 x [] k rfl (Nat.le_refl _) (by rw [List.length_cons]; omega) rfl (by simp) (by rw [List.length_cons] at hk; omega)
/-- each run lies within the list -/
theorem growR_in : ∀ (r : List ByteArray) (lo i : Nat) (x : ByteArray) (q : Rg), lo < i → q ∈ growR r lo i x → 0 ≤ q.f0 ∧ q.f0 < q.f1 ∧ q.f1 ≤ ((i + r.length : Nat) : Int) := by
  intro r
  induction r with
  | nil =>
    intro lo i x q hlo hq
    rw [growR, List.mem_singleton] at hq
    subst hq
    exact ⟨by show (0 : Int) ≤ (lo : Int); omega, by show (lo : Int) < (i : Int); omega, by show (i : Int) ≤ _; rw [List.length_nil]; omega⟩
  | cons y r ih =>
    intro lo i x q hlo hq
    rw [growR] at hq
    rw [List.length_cons]
    by_cases hyx : y = x
    · rw [if_pos hyx] at hq
      have := ih lo (i + 1) x q (by omega) hq
      refine ⟨this.1, this.2.1, ?_⟩
      have := this.2.2
      omega
    · rw [if_neg hyx, List.mem_cons] at hq
      rcases hq with hq | hq
      · subst hq
        exact ⟨by show (0 : Int) ≤ (lo : Int); omega, by show (lo : Int) < (i : Int); omega, by show (i : Int) ≤ _; omega⟩
      · have := ih i (i + 1) y q (by omega) hq
        refine ⟨this.1, this.2.1, ?_⟩
        have := this.2.2
        omega
theorem runsB_in (l : List ByteArray) (q : Rg) (h : q ∈ runsB l) : 0 ≤ q.f0 ∧ q.f0 < q.f1 ∧ q.f1 ≤ (l.length : Int) := by
  cases l with
  | nil => cases h
  | cons x r =>
    have := growR_in r 0 1 x q (by omega) h
    rw [List.length_cons]
    refine ⟨this.1, this.2.1, ?_⟩
    have := this.2.2
    omega
theorem growR_len : ∀ (r : List ByteArray) (lo i : Nat) (x : ByteArray), (growR r lo i x).length ≤ r.length + 1 := by
  intro r
  induction r with
  | nil => intro lo i x; exact Nat.le_refl _
  | cons y r ih =>
    intro lo i x
    rw [growR, List.length_cons]
    split
    · have := ih lo (i + 1) x; omega
    · rw [List.length_cons]; have := ih i (i + 1) y; omega
theorem runsB_len (l : List ByteArray) : (runsB l).length ≤ l.length := by
  cases l with
  | nil => exact Nat.le_refl _
  | cons x r => exact growR_len r 0 1 x

/-! ### prelude psame -/
theorem same_l0 (l : List Rg) (hl : l.length ≤ 1000000) : ∀ (k i : Nat), i ≤ l.length → l.length - i < k → unicodetextref30_SameRanges.l0 k l l (i : Int) = some true := by
  intro k
  induction k with
  | zero => intro i h1 h2; omega
  | succ k ih =>
    intro i h1 h2
    rw [unicodetextref30_SameRanges.l0]
    by_cases hi : i < l.length
    · rw [if_pos (by omega), if_pos (by omega), if_pos (by omega), if_neg (by simp), wr64 _ (by omega) (by omega)]
      exact ih (i + 1) hi (by omega)
    · rw [if_neg (by omega)]
theorem same_f (l : List Rg) (hl : l.length ≤ 1000000) (k : Nat) (hk : l.length < k) : unicodetextref30_SameRanges.f k l l = some true := by
  unfold unicodetextref30_SameRanges.f
  rw [if_pos rfl]
  exact same_l0 l hl k 0 (Nat.zero_le _) (by omega)

/-! ### scripts_Runs: function 20 -/
def scripts_Runs.f (k : Nat) (l0_0 : List ByteArray) (l0_1 : List (S45)) (l1 : List Int) : Option ((List (S38))) := (scripts_resolved.f l0_0 l0_1 l1).bind fun t251 => ((scripts_runs_string.f k t251).bind fun t254 => (some t254))
theorem scripts_Runs.mono : ∀ a0 a1 a2 k, LeO (scripts_Runs.f k a0 a1 a2) (scripts_Runs.f (k + 1) a0 a1 a2) := by
  intro a0 a1 a2 k
  unfold scripts_Runs.f
  repeat' first
      | (with_reducible exact scripts_runs_string.mono _ _)
      | (with_reducible exact LeO.refl _)
      | (with_reducible exact LeO.none _)
      | (with_reducible refine LeO.ite ?_ ?_)
      | (with_reducible refine LeO.bind ?_ (fun _ => ?_))
      | exact scripts_runs_string.mono _ _
      | exact LeO.none _
      | refine LeO.ite ?_ ?_
      | refine LeO.bind ?_ (fun _ => ?_)
set_option maxHeartbeats 8000000 in
set_option maxRecDepth 100000 in
theorem scripts_Runs.calls (k : Nat) (A0_0 : Option Addr) (c0_0 : Nat) (l0_0 : List ByteArray) (A0_1 : Option Addr) (c0_1 : Nat) (l0_1 : List (S45)) (A1 : Option Addr) (c1 : Nat) (l1 : List Int) (r : List (S38)) (w : World) (hr0_0 : Kd.C Kd.string w A0_0 l0_0.length l0_0) (hc0_0 : l0_0.length ≤ c0_0) (hr0_1 : Kd.C k45 w A0_1 l0_1.length l0_1) (hc0_1 : l0_1.length ≤ c0_1) (hr1 : Kd.C (Kd.int .i64) w A1 l1.length l1) (hc1 : l1.length ≤ c1) (h : scripts_Runs.f k l0_0 l0_1 l1 = some r) :
    Calls Try.prog 20 #[.agg #[.slice A0_0 l0_0.length c0_0, .slice A0_1 l0_1.length c0_1], .slice A1 l1.length c1] w fun e w' => ∃ v0_ : Value, e = .returned (v0_) ∧ Kd.R k38 38 w' w.heap.size (fun _ => True) v0_ r ∧ Below w.heap.size w w' := by
  have hu25 := Try.underlying25
  have HR0_0 := Aside0.mk hr0_0
  have HC0_0 := Aside0.mk hc0_0
  clear hr0_0 hc0_0
  have HR0_1 := Aside0.mk hr0_1
  have HC0_1 := Aside0.mk hc0_1
  clear hr0_1 hc0_1
  have HR1 := Aside0.mk hr1
  have HC1 := Aside0.mk hc1
  clear hr1 hc1
  have HB := Aside0.mk (Below.refl w.heap.size w)
  have H : ((scripts_resolved.f l0_0 l0_1 l1).bind fun t251 => ((scripts_runs_string.f k t251).bind fun t254 => (some t254))) = some r := h
  clear h
  replace H := Option.bind_eq_some_iff.mp H
  obtain ⟨t251, A30, H⟩ := H
  replace H : ((scripts_runs_string.f k t251).bind fun t254 => (some t254)) = some r := H
  have A3 := Aside0.mk A30
  clear A30
  replace H := Option.bind_eq_some_iff.mp H
  obtain ⟨t254, A40, H⟩ := H
  replace H : (some t254) = some r := H
  have A4 := Aside0.mk A40
  clear A40
  obtain rfl := Option.some.inj H
  go_enter Try.func20, Try.ntmps20
  go_wp2_with (first | ((with_reducible refine gate_dst (N := 2) rfl ?_); refine box_event ?hg (N := 2) ?hd (cs := #[.slice A0_0 l0_0.length c0_0, .slice A0_1 l0_1.length c0_1]) (t := 25) ?hr ?_; (case hd => rfl); (case hg => rfl); (case hr => first | (go_simp; done) | (go_simp; rfl)); intro gb250 hg w5 hbox hb; have n0_ := Aside0.mk (below_step (by repeat (first | (with_reducible first | exact HB.out | apply below_alloc | apply pw_below_drewN | apply below_drew1) | exact HB.out)) hb); have n1_ := Aside0.mk (hbox); have n2_ := Aside0.mk ((by rw [hg]; exact (below_size (by repeat (first | (with_reducible first | exact HB.out | apply below_alloc | apply pw_below_drewN | apply below_drew1) | exact HB.out))) : w.heap.size ≤ gb250)); have n3_ := Aside0.mk ((by rw [hg]; exact (below_size (by repeat (first | (with_reducible first | exact HB.out | apply below_alloc | apply pw_below_drewN | apply below_drew1) | exact HB.out))) : w.heap.size ≤ gb250)); clear HB; have HB := n0_; have BK250 := n1_; have GW250 := n2_; have GE250 := n3_; clear n0_ n1_ n2_ n3_; clear hb hbox hg; have hcz6_0 : w5.cell? ⟨gb250, 0, none⟩ = some (.slice A0_0 l0_0.length c0_0) := (blk_cell BK250.out 0).trans rfl; have hcz6_1 : w5.cell? ⟨gb250, 1, none⟩ = some (.slice A0_1 l0_1.length c0_1) := (blk_cell BK250.out 1).trans rfl; have hfz6_0 := blk_frozen BK250.out 0; have hfz6_1 := blk_frozen BK250.out 1) | ((with_reducible refine gate_callee (f := 28) rfl ?_); refine goesL_ (some 7) rfl rfl Try.func28 (by kernel_rfl) rfl #[.agg #[.slice A0_0 l0_0.length c0_0, .slice A0_1 l0_1.length c0_1], .slice A1 l1.length c1] rfl (by (try simp only [List.map_toArray, List.map_cons, List.map_nil]); first | done | rfl | (simp only [List.length_drop, List.length_take]; rfl)) ?_; (with_reducible refine (scripts_resolved.calls _ _ l0_0 _ _ l0_1 _ _ l1 t251 _ ?side1 ?side2 ?side3 ?side4 ?side5 ?side6 A3.out).mono ?_); (case side1 => repeat (first | exact (Kd.C_below HR0_0.out HB.out) | (with_reducible refine Kd.C_alloc ?_ _) | (with_reducible refine Kd.C_drewN ?_ _) | (with_reducible refine Kd.C_drew ?_))); (case side2 => exact HC0_0.out); (case side3 => repeat (first | exact (Kd.C_below HR0_1.out HB.out) | (with_reducible refine Kd.C_alloc ?_ _) | (with_reducible refine Kd.C_drewN ?_ _) | (with_reducible refine Kd.C_drew ?_))); (case side4 => exact HC0_1.out); (case side5 => repeat (first | exact (Kd.C_below HR1.out HB.out) | (with_reducible refine Kd.C_alloc ?_ _) | (with_reducible refine Kd.C_drewN ?_ _) | (with_reducible refine Kd.C_drew ?_))); (case side6 => exact HC1.out); rintro e w7 ⟨v252, rfl, ho0, hb⟩; refine ⟨_, rfl, ?_⟩; have n0_ := Aside0.mk (Kd.R_lower ho0 (below_size (by repeat (first | (with_reducible first | exact HB.out | apply below_alloc | apply pw_below_drewN | apply below_drew1 | refine below_set ?_ GE250.out) | exact HB.out)))); have n1_ := Aside0.mk (blk_below (g := gb250) (o := .cells #[.slice A0_0 l0_0.length c0_0, .slice A0_1 l0_1.length c0_1] 25 (0, 0)) (by (with_reducible repeat (first | refine blk_drewN ?_ _ | refine blk_drew ?_ | refine blk_alloc ?_ _)); exact BK250.out) hb); have n2_ := Aside0.mk (below_step (by repeat (first | (with_reducible first | exact HB.out | apply below_alloc | apply pw_below_drewN | apply below_drew1 | refine below_set ?_ GE250.out) | exact HB.out)) hb); clear BK250; clear HB; have HO253 := n0_; have BK250 := n1_; have HB := n2_; clear n0_ n1_ n2_; (try clear hb); (try clear hb2); (try clear hk); (try clear hi); (try clear ho0); obtain ⟨Ao8, co8, eo8⟩ := Kd.R_slice HO253.out; subst eo8) | ((with_reducible refine gate_callee (f := 29) rfl ?_); refine goesL_ (some 8) rfl rfl Try.func29 (by kernel_rfl) rfl #[.slice Ao8 t251.length co8] rfl (by (try simp only [List.map_toArray, List.map_cons, List.map_nil]); first | done | rfl | (simp only [List.length_drop, List.length_take]; rfl)) ?_; (with_reducible refine (scripts_runs_string.calls k _ _ t251 t254 _ ?side1 ?side2 A4.out).mono ?_); (case side1 => repeat (first | exact (Kd.R_reads' HO253.out).2.2 | (with_reducible refine Kd.C_alloc ?_ _) | (with_reducible refine Kd.C_drewN ?_ _) | (with_reducible refine Kd.C_drew ?_))); (case side2 => exact (Kd.R_reads' HO253.out).2.1); rintro e w9 ⟨v255, rfl, ho0, hb⟩; refine ⟨_, rfl, ?_⟩; have n0_ := Aside0.mk (Kd.R_below (by (with_reducible repeat (first | apply Kd.R_alloc | apply Kd.R_drewN | apply Kd.R_drew)); exact HO253.out) hb); have n1_ := Aside0.mk (Kd.R_lower ho0 (below_size (by repeat (first | (with_reducible first | exact HB.out | apply below_alloc | apply pw_below_drewN | apply below_drew1 | refine below_set ?_ GE250.out) | exact HB.out)))); have n2_ := Aside0.mk (blk_below (g := gb250) (o := .cells #[.slice A0_0 l0_0.length c0_0, .slice A0_1 l0_1.length c0_1] 25 (0, 0)) (by (with_reducible repeat (first | refine blk_drewN ?_ _ | refine blk_drew ?_ | refine blk_alloc ?_ _)); exact BK250.out) hb); have n3_ := Aside0.mk (below_step (by repeat (first | (with_reducible first | exact HB.out | apply below_alloc | apply pw_below_drewN | apply below_drew1 | refine below_set ?_ GE250.out) | exact HB.out)) hb); clear HO253; clear BK250; clear HB; have HO253 := n0_; have HO256 := n1_; have BK250 := n2_; have HB := n3_; clear n0_ n1_ n2_ n3_; (try clear hb); (try clear hb2); (try clear hk); (try clear hi); (try clear ho0)))
  go_ret
  exact ⟨_, by first | rfl | (simp [errW_none, errW_some] <;> rfl) | (simp [*, errW_none, errW_some] <;> rfl), by (with_reducible repeat (first | apply Kd.R_alloc | apply Kd.R_drewN | apply Kd.R_drew)); exact HO256.out, by repeat (first | (with_reducible first | exact HB.out | apply below_alloc | apply pw_below_drewN | apply below_drew1 | refine below_set ?_ GE250.out) | exact HB.out)⟩

/-! ### scripts_Level: function 22 -/
def highI (c : Int) : Bool := decide (c < 0) || decide (127 < c)
def missing (some : List ByteArray) (s : ByteArray) : Bool := !(some.any (eqS s))
def allows (l some : List ByteArray) : Bool := !(l.any (missing some))
def levelB (names : List ByteArray) (spans : List Sp) (allowed : List (List ByteArray)) (text : List Int) : Int :=
  if text.any highI = false then 1 else if (ofB (reals names spans text)).length ≤ 1 then 2 else if allowed.any (allows (ofB (reals names spans text))) = true then 3 else 4
theorem level1_calls (c : Int) (W : World) : Calls Try.prog 36 (#[.int .i64 c] ++ #[]) W fun e w' => e = .returned (.bool (highI c)) ∧ Below W.heap.size W w' := by
  go_enter Try.func36, Try.ntmps36
  by_cases h : c < 0
  · go_wp2
    go_ret
    exact ⟨ret_bool (by unfold highI; rw [decide_eq_true h]; rfl), Below.refl _ _⟩
  · go_wp2
    go_ret
    exact ⟨ret_bool (by unfold highI; rw [decide_eq_false (by omega : ¬ c < 0)]; rfl), Below.refl _ _⟩
theorem level2_calls (A0 : Option Addr) (c0 : Nat) (some : List ByteArray) (b : Nat) (x : ByteArray) (W : World) (hc0 : some.length ≤ c0) (hr : Kd.C Kd.string W A0 some.length some) (hb : W.cell? ⟨b, 0, none⟩ = .some (.slice A0 some.length c0)) : Calls Try.prog 38 (#[.string x] ++ #[.pointer (.some ⟨b, 0, none⟩)]) W fun e w' => e = .returned (.bool (missing some x)) ∧ Below W.heap.size W w' := by
  have HC := Aside0.mk (contains_str x A0 c0 some W hr hc0)
  clear hr
  go_enter Try.func38, Try.ntmps38
  go_wp2_with (go_at_call 39; refine HC.out.mono ?_; rintro e w' ⟨rfl, hb⟩)
  go_ret
  exact ⟨ret_bool (by rfl), hb⟩
theorem at_LL {w : World} {A : Option Addr} {n : Nat} {xs : List (List ByteArray)} (h : Kd.C (Kd.slice 9 Kd.string) w A n xs) (i : Int) (h0 : 0 ≤ i) (h1 : i < n) : ∃ ad A0 c0, A = some ad ∧ w.cell? (ad.add i.toNat) = some (.slice A0 (xs.getD i.toNat []).length c0) ∧ (xs.getD i.toNat []).length ≤ c0 ∧ Kd.string.C w A0 (xs.getD i.toNat []).length (xs.getD i.toNat []) := by
  obtain ⟨ad, c, e, _, hK, hc0⟩ := Kd.C_get h ([] : List ByteArray) i h0 h1
  have hc : ∀ j u, c[j]? = some u → w.cell? (ad.add (i.toNat * 1 + j)) = some u := hc0
  obtain ⟨A0, c0, rfl, l0, g0⟩ := hK
  exact ⟨ad, A0, c0, e, by have hq := hc 0 _ rfl; rwa [Nat.mul_one, Nat.add_zero] at hq, l0, g0⟩
def scripts_Level.f (l0_0 : List ByteArray) (l0_1 : List Sp) (l1 : List (List ByteArray)) (l2 : List Int) : Option Int := if scrPre l0_0 l2 = true then some (levelB l0_0 l0_1 l1 l2) else none
set_option maxHeartbeats 1600000 in
set_option maxRecDepth 100000 in
theorem scripts_Level.calls (A0_0 : Option Addr) (c0_0 : Nat) (l0_0 : List ByteArray) (A0_1 : Option Addr) (c0_1 : Nat) (l0_1 : List Sp) (A1 : Option Addr) (c1 : Nat) (l1 : List (List ByteArray)) (A2 : Option Addr) (c2 : Nat) (l2 : List Int) (r : Int) (w : World) (hr0_0 : Kd.C Kd.string w A0_0 l0_0.length l0_0) (hc0_0 : l0_0.length ≤ c0_0) (hr0_1 : Kd.C k45 w A0_1 l0_1.length l0_1) (hc0_1 : l0_1.length ≤ c0_1) (hr1 : Kd.C (Kd.slice 9 Kd.string) w A1 l1.length l1) (hc1 : l1.length ≤ c1) (hr2 : Kd.C (Kd.int .i64) w A2 l2.length l2) (hc2 : l2.length ≤ c2) (h : scripts_Level.f l0_0 l0_1 l1 l2 = some r) :
    Calls Try.prog 22 #[.agg #[.slice A0_0 l0_0.length c0_0, .slice A0_1 l0_1.length c0_1], .slice A1 l1.length c1, .slice A2 l2.length c2] w fun e w' => e = .returned (.int .i64 r) ∧ Below w.heap.size w w' := by
  unfold scripts_Level.f at h
  by_cases hz : scrPre l0_0 l2 = true
  case neg => rw [if_neg hz] at h; cases h
  rw [if_pos hz] at h
  obtain rfl := Option.some.inj h
  have hof : scripts_Of.f l0_0 l0_1 l2 = some (ofB (reals l0_0 l0_1 l2)) := by unfold scripts_Of.f; rw [if_pos hz]
  have HO := Aside0.mk hof
  obtain ⟨ns, hns⟩ : ∃ ns, ns = ofB (reals l0_0 l0_1 l2) := ⟨_, rfl⟩
  have HN := Aside0.mk hns
  have hm1 := hr1.2.1
  have R0 := Aside0.mk hr0_0
  have R1 := Aside0.mk hr0_1
  have R2 := Aside0.mk hr1
  have R3 := Aside0.mk hr2
  clear h hr0_0 hr0_1 hr1 hr2 hz hof
  obtain ⟨lv, hlv⟩ : ∃ lv, lv = levelB l0_0 l0_1 l1 l2 := ⟨_, rfl⟩
  rw [← hlv]
  unfold levelB at hlv
  rw [← hns] at hlv
  have HL := Aside0.mk hlv
  clear hlv hns
  go_enter Try.func22, Try.ntmps22
  have H1 := Aside0.mk (containsFunc_int 36 #[] (enters_of Try.func36 (by kernel_rfl) rfl) highI A2 c2 l2 (w.alloc (.cells #[.slice A0_0 l0_0.length c0_0, .slice A0_1 l0_1.length c0_1] 25)) (Kd.C_below R3.out ((Below.refl _ _).alloc (Nat.le_refl _) _)) hc2 (fun x W _ => level1_calls x W))
  cases hany : l2.any highI with
  | false =>
    rw [hany] at H1
    go_wp2_with (go_at_call 35; refine H1.out.mono ?_; rintro e w1 ⟨rfl, hb1⟩)
    go_ret
    refine ⟨ret_int ?_, ?_⟩
    · rw [HL.out, if_pos hany]
    · exact ((Below.refl _ _).alloc (Nat.le_refl _) _).trans (hb1.mono (by simp))
  | true =>
    rw [hany] at H1
    have HA := Aside0.mk hany
    clear hany
    obtain ⟨W, hW⟩ : ∃ W, W = (w.alloc (.cells #[.slice A0_0 l0_0.length c0_0, .slice A0_1 l0_1.length c0_1] 25)) := ⟨_, rfl⟩
    have BW : Below w.heap.size w W := by rw [hW]; exact (Below.refl _ _).alloc (Nat.le_refl _) _
    have b0 : W.cell? ⟨w.heap.size, 0, none⟩ = some (.slice A0_0 l0_0.length c0_0) := by rw [hW]; simp
    have b1 : W.cell? ⟨w.heap.size, 1, none⟩ = some (.slice A0_1 l0_1.length c0_1) := by rw [hW]; simp
    have HW := Aside0.mk hW
    have HBW := Aside0.mk BW
    rw [← hW] at H1
    clear hW BW
    by_cases hl1 : ns.length ≤ 1
    · have hl2 : (ns.length : Int) ≤ 1 := by omega
      go_wp2_with (first | (go_at_call 35; rw [← HW.out]; refine H1.out.mono ?_; rintro e w1 ⟨rfl, hb1⟩; have hB1 := HBW.out.trans (hb1.mono HBW.out.size); have d0 := pw_cell_below hb1 b0; have d1 := pw_cell_below hb1 b1) | (go_at_call 15; refine (scripts_Of.calls _ _ _ _ _ _ _ _ _ _ _ (Kd.C_below R0.out hB1) hc0_0 (Kd.C_below R1.out hB1) hc0_1 (Kd.C_below R3.out hB1) hc2 HO.out).mono ?_; rw [← HN.out]; rintro e w2 ⟨v, rfl, hR, hb2⟩; have hB2 := hB1.trans (hb2.mono hB1.size); obtain ⟨Av, cv, ev⟩ := Kd.R_slice hR; subst ev))
      go_ret
      exact ⟨ret_int (by rw [HL.out, if_neg (by rw [HA.out]; decide), if_pos hl1]), hB2⟩
    · have hl2 : ¬ (ns.length : Int) ≤ 1 := by omega
      go_wp2_with (first | (go_at_call 35; rw [← HW.out]; refine H1.out.mono ?_; rintro e w1 ⟨rfl, hb1⟩; have hB1 := HBW.out.trans (hb1.mono HBW.out.size); have d0 := pw_cell_below hb1 b0; have d1 := pw_cell_below hb1 b1) | (go_at_call 15; refine (scripts_Of.calls _ _ _ _ _ _ _ _ _ _ _ (Kd.C_below R0.out hB1) hc0_0 (Kd.C_below R1.out hB1) hc0_1 (Kd.C_below R3.out hB1) hc2 HO.out).mono ?_; rw [← HN.out]; rintro e w2 ⟨v, rfl, hR, hb2⟩; have hB2 := hB1.trans (hb2.mono hB1.size); obtain ⟨Av, cv, ev⟩ := Kd.R_slice hR; subst ev))
      have HR2 := Aside0.mk hR
      have HB2 := Aside0.mk hB2
      have HL2 : Aside0 (lv = if l1.any (allows ns) = true then 3 else 4) := ⟨by rw [HL.out, if_neg (by rw [HA.out]; decide), if_neg hl1]⟩
      have hcap : ns.length ≤ cv := (Kd.R_reads' hR).2.1
      clear HL HA H1 HO HW hb1 hb2 hB1 hB2 hR b0 b1 d0 d1 hl1 hl2
      go_loopw [21] (fun i wr => ∃ (k : Nat), k ≤ l1.length ∧ i = .int .i64 k ∧ Aside0 (Below w2.heap.size w2 wr) ∧ Aside0 ((l1.drop k).any (allows ns) = l1.any (allows ns))) (fun i _ => l1.length - (intOf i).toNat)
      case atStart => exact ⟨0, Nat.zero_le _, rfl, ⟨Below.refl _ _⟩, ⟨rfl⟩⟩
      case round =>
        obtain ⟨k, hk, rfl, hB, hI⟩ := hrel
        by_cases hlt : k < l1.length
        · obtain ⟨ad, A0, c0, e, x0, hx1, hx2⟩ := at_LL (Kd.C_below R2.out (HB2.out.trans (hB.out.mono HB2.out.size))) (k : Int) (by omega) (by omega)
          subst e
          obtain ⟨y, hy⟩ : ∃ y, y = l1.getD (k : Int).toNat [] := ⟨_, rfl⟩
          rw [← hy] at x0 hx1 hx2
          rw [show ((k : Int)).toNat = k from rfl] at x0 hy
          have hd : Aside0 (l1.drop k = y :: l1.drop (k + 1)) := ⟨by rw [hy]; exact drop_at l1 [] k hlt⟩
          have HX := Aside0.mk hx2
          clear hy hx2
          obtain ⟨q, hq⟩ : ∃ q, q = ns.any (missing y) := ⟨_, rfl⟩
          have hal : Aside0 (allows ns y = !q) := ⟨by rw [hq]; rfl⟩
          have HQ := Aside0.mk hq.symm
          have HC := Aside0.mk (containsFunc_str 38 #[.pointer (some ⟨wr.heap.size, 0, none⟩)] (enters_of Try.func38 (by kernel_rfl) rfl) (missing y) Av cv ns (wr.alloc (.cells #[.slice A0 y.length c0] 22)) (Kd.C_below (Kd.R_reads' HR2.out).2.2 (below_alloc hB.out _)) hcap (fun x W' hW' => level2_calls A0 c0 y wr.heap.size x W' hx1 (Kd.C_below HX.out ((below_alloc (Below.refl wr.heap.size wr) _).trans (hW'.mono (by simp)))) (pw_cell_below hW' (by simp))))
          clear hq
          cases q with
          | true =>
            go_wp2_with (go_at_call 37; refine HC.out.mono ?_; rw [HQ.out]; rintro e w3 ⟨rfl, hb3⟩)
            go_roundw
            case rel =>
              refine ⟨k + 1, by omega, by go_num, ⟨(below_alloc hB.out _).trans (hb3.mono (Nat.le_trans hB.out.size (by simp)))⟩, ⟨?_⟩⟩
              rw [← hI.out, hd.out, List.any_cons, hal.out]; rfl
            case measure => simp [intOf]; omega
          | false =>
            go_wp2_with (go_at_call 37; refine HC.out.mono ?_; rw [HQ.out]; rintro e w3 ⟨rfl, hb3⟩)
            go_ret
            refine ⟨ret_int ?_, HB2.out.trans (((below_alloc hB.out _).trans (hb3.mono (Nat.le_trans hB.out.size (by simp)))).mono HB2.out.size)⟩
            rw [HL2.out, ← hI.out, hd.out, List.any_cons, hal.out]; rfl
        · obtain rfl : k = l1.length := by omega
          go_wp2
          go_ret
          refine ⟨ret_int ?_, HB2.out.trans (hB.out.mono HB2.out.size)⟩
          rw [HL2.out, ← hI.out, List.drop_length]; rfl

end Go.Proofs.Ytneelkaelcilfaa.PA

-- Laid by hprint.py (this session's program, over the kit's print) for the seat Ytneelkaelcilfaa. Lean checks it.
import Derived.Test.YtneelkaelcilfaaPAx0
import Derived.Test.YtneelkaelcilfaaPAx2
import Derived.Test.YtneelkaelcilfaaPAx5
import Derived.Test.YtneelkaelcilfaaPAx6
import Derived.Test.YtneelkaelcilfaaPAx7
namespace Go.Proofs.Ytneelkaelcilfaa.PA
open Go.RowKit Go.Proofs.YtneelkaelcilfaaW.PrintWords Go.Proofs.YtneelkaelcilfaaW.PrintLast Go.Proofs.YtneelkaelcilfaaW.PrintMore
attribute [local go_sem] max2_int min2_int max_two min_two max_three min_three max_four min_four   -- for this text's walks alone
set_option linter.unusedVariables false
set_option linter.unusedSimpArgs false

/-! ### scripts_real: function 31 -/
def scripts_real.f (l0_0 : List ByteArray) (l0_1 : List Sp) (l1 : List Int) : Option (List ByteArray) := if scrPre l0_0 l1 = true then some (reals l0_0 l0_1 l1) else none
set_option maxHeartbeats 1600000 in
set_option maxRecDepth 100000 in
theorem scripts_real.calls (A0_0 : Option Addr) (c0_0 : Nat) (l0_0 : List ByteArray) (A0_1 : Option Addr) (c0_1 : Nat) (l0_1 : List Sp) (A1 : Option Addr) (c1 : Nat) (l1 : List Int) (r : List ByteArray) (w : World) (hr0_0 : Kd.C Kd.string w A0_0 l0_0.length l0_0) (hc0_0 : l0_0.length ≤ c0_0) (hr0_1 : Kd.C k45 w A0_1 l0_1.length l0_1) (hc0_1 : l0_1.length ≤ c0_1) (hr1 : Kd.C (Kd.int .i64) w A1 l1.length l1) (hc1 : l1.length ≤ c1) (h : scripts_real.f l0_0 l0_1 l1 = some r) :
    Calls Try.prog 31 #[.agg #[.slice A0_0 l0_0.length c0_0, .slice A0_1 l0_1.length c0_1], .slice A1 l1.length c1] w fun e w' => ∃ v0_ : Value, e = .returned (v0_) ∧ Kd.R Kd.string 9 w' w.heap.size (fun _ => True) v0_ r ∧ Below w.heap.size w w' := by
  unfold scripts_real.f at h
  by_cases hz : scrPre l0_0 l1 = true
  case neg => rw [if_neg hz] at h; cases h
  rw [if_pos hz] at h
  obtain rfl := Option.some.inj h
  unfold scrPre at hz
  simp only [Bool.and_eq_true, decide_eq_true_eq] at hz
  have R0 := Aside0.mk hr0_0
  have R1 := Aside0.mk hr0_1
  have R2 := Aside0.mk hr1
  have HZ := Aside0.mk hz.1.1
  have HT := Aside0.mk hz.1.2
  have hlen := hz.2
  clear h hr0_0 hr0_1 hr1 hz
  have hmm := @run_makeMap Try.prog
  go_enter Try.func31, Try.ntmps31
  go_wp2
  obtain ⟨W, hW⟩ : ∃ W, W = w.alloc (.cells #[.slice A0_0 l0_0.length c0_0, .slice A0_1 l0_1.length c0_1] 25) := ⟨_, rfl⟩
  have BW : Below w.heap.size w W := by rw [hW]; exact (Below.refl _ _).alloc (Nat.le_refl _) _
  have hWs : W.heap.size = w.heap.size + 1 := by rw [hW]; simp
  have b0 : W.cell? ⟨w.heap.size, 0, none⟩ = some (.slice A0_0 l0_0.length c0_0) := by rw [hW]; simp
  have b1 : W.cell? ⟨w.heap.size, 1, none⟩ = some (.slice A0_1 l0_1.length c0_1) := by rw [hW]; simp
  have RW0 := Aside0.mk (Kd.C_below R0.out BW)
  have RW1 := Aside0.mk (Kd.C_below R1.out BW)
  have RW2 := Aside0.mk (Kd.C_below R2.out BW)
  have BW' := Aside0.mk BW
  rw [← hW, ← hWs]
  have HWs := Aside0.mk hWs
  clear hW BW R0 R1 R2 hWs
  go_loopw [6, 14] (fun v i wr => ∃ (k : Nat) (f : Int → Option Value), k ≤ l1.length ∧ i = .int .i64 k ∧ Aside0 (MapIs encI wr Try.prog 3 W.heap.size k f) ∧ Aside0 (∀ c s, f c = some s → s = .string (realOf l0_0 l0_1 c)) ∧ Aside0 (Kd.R Kd.string 9 wr W.heap.size (fun _ => True) v (reals l0_0 l0_1 (l1.take k))) ∧ Aside0 (Below W.heap.size W wr)) (fun _ i _ => l1.length - (intOf i).toNat)
  case atStart => exact ⟨0, fun _ => none, Nat.zero_le _, rfl, ⟨MapIs.made W Try.prog 3⟩, ⟨fun c s h => by cases h⟩, ⟨Kd.R_nil _ _ _ _ _⟩, ⟨below_alloc (Below.refl _ _) _⟩⟩
  case round =>
    obtain ⟨k, f, hk, rfl, hM, hF, hR, hB⟩ := hrel
    obtain ⟨Av, cv, ev⟩ := Kd.R_slice hR.out
    subst ev
    by_cases hlt : k < l1.length
    · obtain ⟨ad, e, x0⟩ := Kd.at_int (Kd.C_below RW2.out hB.out) (k : Int) (by omega) (by omega)
      cases e
      obtain ⟨c, hc⟩ : ∃ c, c = rd l1 (k : Int) := ⟨_, rfl⟩
      have hkey := Aside0.mk (key_int c (by rw [hc]; exact ints_at HT.out k))
      rw [← hc] at x0
      have htake : Aside0 (reals l0_0 l0_1 (l1.take (k + 1)) = reals l0_0 l0_1 (l1.take k) ++ [realOf l0_0 l0_1 c]) := ⟨by
        unfold reals
        rw [List.take_succ_eq_append_getElem hlt, List.map_append, hc]
        show _ ++ [realOf _ _ l1[k]] = _ ++ [realOf _ _ (l1.getD k 0)]
        rw [List.getD_eq_getElem?_getD, List.getElem?_eq_getElem hlt]; rfl⟩
      clear hc
      rw [show ((k : Int)).toNat = k from rfl] at x0
      have d0 := pw_cell_below hB.out b0
      have d1 := pw_cell_below hB.out b1
      cases hf : f c with
      | some s =>
        have hs : s = .string (realOf l0_0 l0_1 c) := hF.out c s hf
        subst hs
        go_wp2_with (first | (at_lookup; refine wpList_mapis_ok _ rfl _ _ 62 rfl 3 9 law_int Try.underlying62 (zero_str _) W.heap.size k f rfl hM.out _ c rfl hkey.out ?_; simp only [hf, Option.getD_some, Option.isSome_some]) | (at_builtin; refine Kd.R_append Kd.string (w0 := W) W.heap.size rfl (.tmp 42) (.tmp 44) 22 9 (.string ⟨#[]⟩) 16 rfl Try.underlying22 infoStr rfl (by decide) (by omega) _ _ (realOf l0_0 l0_1 c) [.string (realOf l0_0 l0_1 c)] (fun _ => True) (fun _ => False) rfl rfl rfl (fun _ hk => hk.elim) (fun _ _ => trivial) hR.out hB.out hB.out.size ?aL ?_; (case aL => unfold reals; rw [List.length_map, List.length_take]; omega); intro v1 w1 ho hb hg hat))
        go_roundw
        case rel =>
          refine ⟨k + 1, f, by omega, by go_num, ⟨(hM.out.kept hg (MapIs.ne_row hM.out hR.out)).mono (Nat.le_succ _)⟩, hF, ⟨by rw [htake.out]; exact ho⟩, ⟨hb⟩⟩
        case measure => simp [intOf]; omega
      | none =>
        obtain ⟨n, hn⟩ : ∃ n, n = nameOf l0_0 l0_1 c := ⟨_, rfl⟩
        have hN := Aside0.mk hn.symm
        by_cases e1 : n = commonS
        · have t1 : (n.toList == ([67, 111, 109, 109, 111, 110] : List UInt8)) = true := by rw [e1, commonS_l]; decide
          have hreal : Aside0 (realOf l0_0 l0_1 c = noneS) := ⟨by unfold realOf realS; rw [← hn, if_pos (.inl e1)]⟩
          clear e1 hn
          go_wp2_with (first | (at_lookup; refine wpList_mapis_ok _ rfl _ _ 62 rfl 3 9 law_int Try.underlying62 (zero_str _) W.heap.size k f rfl hM.out _ c rfl hkey.out ?_; simp only [hf, Option.getD_none, Option.isSome_none]) | (go_at_call 45; refine (property_Name.calls _ _ _ _ _ _ c n _ (Kd.C_below RW0.out hB.out) hc0_0 (Kd.C_below RW1.out hB.out) hc0_1 (by unfold property_Name.f; rw [if_pos HZ.out, hN.out])).mono ?_; rintro e w1 ⟨rfl, hb1⟩) | (at_mapUpdate; refine wpList_mapis_upd _ rfl _ _ _ 62 rfl 3 9 law_int Try.underlying62 W.heap.size k f rfl (hM.out.below hb1) encI_inj (by unfold maxLen; omega) _ _ c rfl rfl hkey.out (encI_key c) ?_; intro w2 hM2 hg2; have hR2 := Kd.R_off_map (Kd.R_below hR.out hb1) (hM.out.below hb1) hg2; have hB2 := (hB.out.trans (hb1.mono hB.out.size)).grown hg2 (hB.out.trans (hb1.mono hB.out.size)).size (fun j hj => by cases hj; exact Nat.le_refl _)) | (at_builtin; refine Kd.R_append Kd.string (w0 := W) W.heap.size rfl (.tmp 42) (.tmp 44) 22 9 (.string ⟨#[]⟩) 16 rfl Try.underlying22 infoStr rfl (by decide) (by omega) _ _ noneS [.string noneS] (fun _ => True) (fun _ => False) rfl rfl rfl (fun _ hk => hk.elim) (fun _ _ => trivial) hR2 hB2 hB2.size (by unfold reals; rw [List.length_map, List.length_take]; omega) ?_; intro v1 w3 ho hb hg hat))
          go_roundw
          case rel =>
            refine ⟨k + 1, _, by omega, by go_num, ⟨hM2.kept hg (MapIs.ne_row hM2 hR2)⟩, ⟨fun c' s h => ?_⟩, ⟨by rw [htake.out, hreal.out]; exact ho⟩, ⟨hb⟩⟩
            by_cases hcc : c' = c
            · subst hcc; rw [if_pos rfl] at h; rw [hreal.out]; exact (Option.some.inj h).symm
            · rw [if_neg hcc] at h; exact hF.out c' s h
          case measure => simp [intOf]; omega
        by_cases e2 : n = inherS
        · have t1 : (n.toList == ([67, 111, 109, 109, 111, 110] : List UInt8)) = false := by rw [e2, inherS_l]; decide
          have t2 : (n.toList == ([73, 110, 104, 101, 114, 105, 116, 101, 100] : List UInt8)) = true := by rw [e2, inherS_l]; decide
          have hreal : Aside0 (realOf l0_0 l0_1 c = noneS) := ⟨by unfold realOf realS; rw [← hn, if_pos (.inr (.inl e2))]⟩
          clear e1 e2 hn
          go_wp2_with (first | (at_lookup; refine wpList_mapis_ok _ rfl _ _ 62 rfl 3 9 law_int Try.underlying62 (zero_str _) W.heap.size k f rfl hM.out _ c rfl hkey.out ?_; simp only [hf, Option.getD_none, Option.isSome_none]) | (go_at_call 45; refine (property_Name.calls _ _ _ _ _ _ c n _ (Kd.C_below RW0.out hB.out) hc0_0 (Kd.C_below RW1.out hB.out) hc0_1 (by unfold property_Name.f; rw [if_pos HZ.out, hN.out])).mono ?_; rintro e w1 ⟨rfl, hb1⟩) | (at_mapUpdate; refine wpList_mapis_upd _ rfl _ _ _ 62 rfl 3 9 law_int Try.underlying62 W.heap.size k f rfl (hM.out.below hb1) encI_inj (by unfold maxLen; omega) _ _ c rfl rfl hkey.out (encI_key c) ?_; intro w2 hM2 hg2; have hR2 := Kd.R_off_map (Kd.R_below hR.out hb1) (hM.out.below hb1) hg2; have hB2 := (hB.out.trans (hb1.mono hB.out.size)).grown hg2 (hB.out.trans (hb1.mono hB.out.size)).size (fun j hj => by cases hj; exact Nat.le_refl _)) | (at_builtin; refine Kd.R_append Kd.string (w0 := W) W.heap.size rfl (.tmp 42) (.tmp 44) 22 9 (.string ⟨#[]⟩) 16 rfl Try.underlying22 infoStr rfl (by decide) (by omega) _ _ noneS [.string noneS] (fun _ => True) (fun _ => False) rfl rfl rfl (fun _ hk => hk.elim) (fun _ _ => trivial) hR2 hB2 hB2.size (by unfold reals; rw [List.length_map, List.length_take]; omega) ?_; intro v1 w3 ho hb hg hat))
          go_roundw
          case rel =>
            refine ⟨k + 1, _, by omega, by go_num, ⟨hM2.kept hg (MapIs.ne_row hM2 hR2)⟩, ⟨fun c' s h => ?_⟩, ⟨by rw [htake.out, hreal.out]; exact ho⟩, ⟨hb⟩⟩
            by_cases hcc : c' = c
            · subst hcc; rw [if_pos rfl] at h; rw [hreal.out]; exact (Option.some.inj h).symm
            · rw [if_neg hcc] at h; exact hF.out c' s h
          case measure => simp [intOf]; omega
        have t1 : (n.toList == ([67, 111, 109, 109, 111, 110] : List UInt8)) = false := by
          rw [beq_eq_false_iff_ne]; intro h; exact e1 ((bs_eq n commonS).1 (h.trans commonS_l.symm))
        have t2 : (n.toList == ([73, 110, 104, 101, 114, 105, 116, 101, 100] : List UInt8)) = false := by
          rw [beq_eq_false_iff_ne]; intro h; exact e2 ((bs_eq n inherS).1 (h.trans inherS_l.symm))
        by_cases e3 : n = otherS
        · have t3 : (n.toList == ([79, 116, 104, 101, 114] : List UInt8)) = true := by rw [e3, otherS_l]; decide
          have hreal : Aside0 (realOf l0_0 l0_1 c = noneS) := ⟨by unfold realOf realS; rw [← hn, if_pos (.inr (.inr e3))]⟩
          clear e1 e2 e3 hn
          go_wp2_with (first | (at_lookup; refine wpList_mapis_ok _ rfl _ _ 62 rfl 3 9 law_int Try.underlying62 (zero_str _) W.heap.size k f rfl hM.out _ c rfl hkey.out ?_; simp only [hf, Option.getD_none, Option.isSome_none]) | (go_at_call 45; refine (property_Name.calls _ _ _ _ _ _ c n _ (Kd.C_below RW0.out hB.out) hc0_0 (Kd.C_below RW1.out hB.out) hc0_1 (by unfold property_Name.f; rw [if_pos HZ.out, hN.out])).mono ?_; rintro e w1 ⟨rfl, hb1⟩) | (at_mapUpdate; refine wpList_mapis_upd _ rfl _ _ _ 62 rfl 3 9 law_int Try.underlying62 W.heap.size k f rfl (hM.out.below hb1) encI_inj (by unfold maxLen; omega) _ _ c rfl rfl hkey.out (encI_key c) ?_; intro w2 hM2 hg2; have hR2 := Kd.R_off_map (Kd.R_below hR.out hb1) (hM.out.below hb1) hg2; have hB2 := (hB.out.trans (hb1.mono hB.out.size)).grown hg2 (hB.out.trans (hb1.mono hB.out.size)).size (fun j hj => by cases hj; exact Nat.le_refl _)) | (at_builtin; refine Kd.R_append Kd.string (w0 := W) W.heap.size rfl (.tmp 42) (.tmp 44) 22 9 (.string ⟨#[]⟩) 16 rfl Try.underlying22 infoStr rfl (by decide) (by omega) _ _ noneS [.string noneS] (fun _ => True) (fun _ => False) rfl rfl rfl (fun _ hk => hk.elim) (fun _ _ => trivial) hR2 hB2 hB2.size (by unfold reals; rw [List.length_map, List.length_take]; omega) ?_; intro v1 w3 ho hb hg hat))
          go_roundw
          case rel =>
            refine ⟨k + 1, _, by omega, by go_num, ⟨hM2.kept hg (MapIs.ne_row hM2 hR2)⟩, ⟨fun c' s h => ?_⟩, ⟨by rw [htake.out, hreal.out]; exact ho⟩, ⟨hb⟩⟩
            by_cases hcc : c' = c
            · subst hcc; rw [if_pos rfl] at h; rw [hreal.out]; exact (Option.some.inj h).symm
            · rw [if_neg hcc] at h; exact hF.out c' s h
          case measure => simp [intOf]; omega
        · have t3 : (n.toList == ([79, 116, 104, 101, 114] : List UInt8)) = false := by
            rw [beq_eq_false_iff_ne]; intro h; exact e3 ((bs_eq n otherS).1 (h.trans otherS_l.symm))
          have hreal : Aside0 (realOf l0_0 l0_1 c = n) := ⟨by unfold realOf realS; rw [← hn, if_neg (fun h => h.elim e1 (fun h => h.elim e2 e3))]⟩
          clear e1 e2 e3 hn
          go_wp2_with (first | (at_lookup; refine wpList_mapis_ok _ rfl _ _ 62 rfl 3 9 law_int Try.underlying62 (zero_str _) W.heap.size k f rfl hM.out _ c rfl hkey.out ?_; simp only [hf, Option.getD_none, Option.isSome_none]) | (go_at_call 45; refine (property_Name.calls _ _ _ _ _ _ c n _ (Kd.C_below RW0.out hB.out) hc0_0 (Kd.C_below RW1.out hB.out) hc0_1 (by unfold property_Name.f; rw [if_pos HZ.out, hN.out])).mono ?_; rintro e w1 ⟨rfl, hb1⟩) | (at_mapUpdate; refine wpList_mapis_upd _ rfl _ _ _ 62 rfl 3 9 law_int Try.underlying62 W.heap.size k f rfl (hM.out.below hb1) encI_inj (by unfold maxLen; omega) _ _ c rfl rfl hkey.out (encI_key c) ?_; intro w2 hM2 hg2; have hR2 := Kd.R_off_map (Kd.R_below hR.out hb1) (hM.out.below hb1) hg2; have hB2 := (hB.out.trans (hb1.mono hB.out.size)).grown hg2 (hB.out.trans (hb1.mono hB.out.size)).size (fun j hj => by cases hj; exact Nat.le_refl _)) | (at_builtin; refine Kd.R_append Kd.string (w0 := W) W.heap.size rfl (.tmp 42) (.tmp 44) 22 9 (.string ⟨#[]⟩) 16 rfl Try.underlying22 infoStr rfl (by decide) (by omega) _ _ n [.string n] (fun _ => True) (fun _ => False) rfl rfl rfl (fun _ hk => hk.elim) (fun _ _ => trivial) hR2 hB2 hB2.size (by unfold reals; rw [List.length_map, List.length_take]; omega) ?_; intro v1 w3 ho hb hg hat))
          go_roundw
          case rel =>
            refine ⟨k + 1, _, by omega, by go_num, ⟨hM2.kept hg (MapIs.ne_row hM2 hR2)⟩, ⟨fun c' s h => ?_⟩, ⟨by rw [htake.out, hreal.out]; exact ho⟩, ⟨hb⟩⟩
            by_cases hcc : c' = c
            · subst hcc; rw [if_pos rfl] at h; rw [hreal.out]; exact (Option.some.inj h).symm
            · rw [if_neg hcc] at h; exact hF.out c' s h
          case measure => simp [intOf]; omega
    · obtain rfl : k = l1.length := by omega
      have e : l1.take l1.length = l1 := List.take_length
      rw [e] at hR
      have hR' := Aside0.mk (Kd.R_lower hR.out BW'.out.size)
      have hl : Aside0 ((reals l0_0 l0_1 (l1.take l1.length)).length = (reals l0_0 l0_1 l1).length) := ⟨by rw [e]⟩
      clear hR e
      go_wp2
      go_ret
      refine ⟨.slice Av (reals l0_0 l0_1 l1).length cv, ?_, hR'.out, BW'.out.trans (hB.out.mono BW'.out.size)⟩
      rw [← hl.out]; rfl

/-! ### prelude iter -/
def keysRen : Go.Shelf.Ren := ⟨fun | 7 => 33 | 10 => 48 | n => n, fun | 23 => 50 | 26 => 9 | 3 => 4 | 28 => 53 | 0 => 0 | 27 => 52 | 33 => 39 | 4 => 4 | n => n, fun | n => n⟩
theorem keysLays : Go.Proofs.SlLaysZ.n7 Try.prog keysRen := {
  mixed := by kernel_rfl
  f7 := ⟨Try.f33.name, by decide, Try.func33.trans (congrArg some (by kernel_rfl))⟩
  f10 := ⟨Try.f48.name, by decide, Try.func48.trans (congrArg some (by kernel_rfl))⟩
  t0 := Try.underlying0
  a0 := Try.isAgg0
  z0 := Try.sizeOf0
  v0 := Try.zeroValue0
  t4 := Try.underlying4
  a4 := Try.isAgg4
  z4 := Try.sizeOf4
  v4 := Try.zeroValue4
  t23 := Try.underlying50
  a23 := Try.isAgg50
  z23 := Try.sizeOf50
  v23 := Try.zeroValue50
  t26 := Try.underlying9
  a26 := Try.isAgg9
  z26 := Try.sizeOf9
  v26 := Try.zeroValue9
  t27 := Try.underlying52
  a27 := Try.isAgg52
  z27 := Try.sizeOf52
  v27 := Try.zeroValue52
  t28 := Try.underlying53
  a28 := Try.isAgg53
  z28 := Try.sizeOf53
  v28 := Try.zeroValue53
  t33 := Try.underlying39
  a33 := Try.isAgg39
  z33 := Try.sizeOf39
  v33 := Try.zeroValue39 }
def sortedRen : Go.Shelf.Ren := ⟨fun | 6 => 32 | 8 => 46 | 9 => 47 | 11 => 54 | 13 => 56 | 12 => 55 | 23 => 70 | 24 => 71 | 14 => 61 | 15 => 62 | 16 => 63 | 17 => 64 | 18 => 65 | 19 => 66 | 20 => 67 | 21 => 68 | 22 => 69 | 25 => 75 | 26 => 76 | 27 => 77 | 28 => 78 | 29 => 79 | 30 => 80 | 31 => 83 | n => n, fun | 26 => 9 | 28 => 53 | 24 => 22 | 0 => 0 | 3 => 3 | 37 => 71 | 48 => 85 | 50 => 87 | 4 => 4 | 40 => 78 | 39 => 77 | 45 => 73 | 5 => 5 | 9 => 9 | 51 => 92 | 55 => 96 | 57 => 98 | 58 => 99 | 33 => 39 | n => n, fun | n => n⟩
theorem sortedLays : Go.Proofs.SlLaysZ.n6 Try.prog sortedRen := {
  mixed := by kernel_rfl
  f6 := ⟨Try.f32.name, by decide, Try.func32.trans (congrArg some (by kernel_rfl))⟩
  f8 := ⟨Try.f46.name, by decide, Try.func46.trans (congrArg some (by kernel_rfl))⟩
  f11 := ⟨Try.f54.name, by decide, Try.func54.trans (congrArg some (by kernel_rfl))⟩
  t0 := Try.underlying0
  a0 := Try.isAgg0
  z0 := Try.sizeOf0
  v0 := Try.zeroValue0
  t24 := Try.underlying22
  a24 := Try.isAgg22
  z24 := Try.sizeOf22
  v24 := Try.zeroValue22
  t26 := Try.underlying9
  a26 := Try.isAgg9
  z26 := Try.sizeOf9
  v26 := Try.zeroValue9
  t28 := Try.underlying53
  a28 := Try.isAgg53
  z28 := Try.sizeOf53
  v28 := Try.zeroValue53
  i26 := by kernel_rfl }
def sortRen : Go.Shelf.Ren := ⟨fun | 6 => 47 | 8 => 56 | 9 => 55 | 19 => 70 | 20 => 71 | 21 => 61 | 22 => 62 | 23 => 63 | 24 => 64 | 25 => 65 | 26 => 66 | 27 => 67 | 28 => 68 | 29 => 69 | 36 => 75 | 31 => 76 | 32 => 77 | 37 => 78 | 38 => 79 | 39 => 80 | 41 => 83 | n => n, fun | 27 => 22 | 29 => 9 | 3 => 3 | 32 => 71 | 26 => 22 | 0 => 0 | 44 => 85 | 46 => 87 | 4 => 4 | 36 => 78 | 35 => 77 | 41 => 73 | 5 => 5 | 9 => 9 | 53 => 92 | 57 => 96 | 63 => 98 | 64 => 99 | n => n, fun | n => n⟩
theorem sortLays : Go.Proofs.SlLaysM.n6 Try.prog sortRen := {
  mixed := by kernel_rfl
  f6 := ⟨Try.f47.name, by decide, Try.func47.trans (congrArg some (by kernel_rfl))⟩
  f8 := Try.func56.trans (congrArg some (by kernel_rfl))
  f9 := ⟨Try.f55.name, by decide, Try.func55.trans (congrArg some (by kernel_rfl))⟩
  f19 := Try.func70.trans (congrArg some (by kernel_rfl))
  f20 := Try.func71.trans (congrArg some (by kernel_rfl))
  f21 := ⟨Try.f61.name, by decide, Try.func61.trans (congrArg some (by kernel_rfl))⟩
  f22 := ⟨Try.f62.name, by decide, Try.func62.trans (congrArg some (by kernel_rfl))⟩
  f23 := ⟨Try.f63.name, by decide, Try.func63.trans (congrArg some (by kernel_rfl))⟩
  f24 := ⟨Try.f64.name, by decide, Try.func64.trans (congrArg some (by kernel_rfl))⟩
  f25 := ⟨Try.f65.name, by decide, Try.func65.trans (congrArg some (by kernel_rfl))⟩
  f26 := ⟨Try.f66.name, by decide, Try.func66.trans (congrArg some (by kernel_rfl))⟩
  f27 := ⟨Try.f67.name, by decide, Try.func67.trans (congrArg some (by kernel_rfl))⟩
  f28 := ⟨Try.f68.name, by decide, Try.func68.trans (congrArg some (by kernel_rfl))⟩
  f29 := ⟨Try.f69.name, by decide, Try.func69.trans (congrArg some (by kernel_rfl))⟩
  f31 := Try.func76.trans (congrArg some (by kernel_rfl))
  f32 := Try.func77.trans (congrArg some (by kernel_rfl))
  f36 := ⟨Try.f75.name, by decide, Try.func75.trans (congrArg some (by kernel_rfl))⟩
  f37 := ⟨Try.f78.name, by decide, Try.func78.trans (congrArg some (by kernel_rfl))⟩
  f38 := ⟨Try.f79.name, by decide, Try.func79.trans (congrArg some (by kernel_rfl))⟩
  f39 := ⟨Try.f80.name, by decide, Try.func80.trans (congrArg some (by kernel_rfl))⟩
  f41 := ⟨Try.f83.name, by decide, Try.func83.trans (congrArg some (by kernel_rfl))⟩
  t0 := Try.underlying0
  a0 := Try.isAgg0
  z0 := Try.sizeOf0
  v0 := Try.zeroValue0
  t3 := Try.underlying3
  a3 := Try.isAgg3
  z3 := Try.sizeOf3
  v3 := Try.zeroValue3
  t4 := Try.underlying4
  a4 := Try.isAgg4
  z4 := Try.sizeOf4
  v4 := Try.zeroValue4
  t5 := Try.underlying5
  a5 := Try.isAgg5
  z5 := Try.sizeOf5
  v5 := Try.zeroValue5
  t9 := Try.underlying9
  a9 := Try.isAgg9
  z9 := Try.sizeOf9
  v9 := Try.zeroValue9
  t26 := Try.underlying22
  a26 := Try.isAgg22
  z26 := Try.sizeOf22
  v26 := Try.zeroValue22
  t27 := Try.underlying22
  a27 := Try.isAgg22
  z27 := Try.sizeOf22
  v27 := Try.zeroValue22
  t29 := Try.underlying9
  a29 := Try.isAgg9
  z29 := Try.sizeOf9
  v29 := Try.zeroValue9
  t32 := Try.underlying71
  a32 := Try.isAgg71
  z32 := Try.sizeOf71
  v32 := Try.zeroValue71
  t35 := Try.underlying77
  a35 := Try.isAgg77
  z35 := Try.sizeOf77
  v35 := Try.zeroValue77
  t36 := Try.underlying78
  a36 := Try.isAgg78
  z36 := Try.sizeOf78
  v36 := Try.zeroValue78
  t41 := Try.underlying73
  a41 := Try.isAgg73
  z41 := Try.sizeOf73
  v41 := Try.zeroValue73
  t44 := Try.underlying85
  a44 := Try.isAgg85
  z44 := Try.sizeOf85
  v44 := Try.zeroValue85
  t46 := Try.underlying87
  a46 := Try.isAgg87
  z46 := Try.sizeOf87
  v46 := Try.zeroValue87
  t53 := Try.underlying92
  a53 := Try.isAgg92
  z53 := Try.sizeOf92
  v53 := Try.zeroValue92
  t57 := Try.underlying96
  a57 := Try.isAgg96
  z57 := Try.sizeOf96
  v57 := Try.zeroValue96
  t63 := Try.underlying98
  a63 := Try.isAgg98
  z63 := Try.sizeOf98
  v63 := Try.zeroValue98
  t64 := Try.underlying99
  a64 := Try.isAgg99
  z64 := Try.sizeOf99
  v64 := Try.zeroValue99 }
open Go.Shelf Go.Sort Go.Maps in
theorem sortsLays (m : Nat) : AnyZ.SortsIn Try.prog sortedRen Fence.wide m :=
  ⟨fun blk off cap ss W hH hblk hsz => callsIn_wide.2 (AnyM.slices_Sort_string sortLays blk off cap ss W hH hblk hsz),
   fun p cap W => callsIn_wide.2 (AnyM.slices_Sort_string_none sortLays p cap W)⟩
open Go.Shelf Go.Sort Go.Maps in
theorem keys_calls (mb : Option Nat) (W : World) : Calls Try.prog 33 #[.map mb] W fun e w' => e = .returned (.func (.func 48) #[] #[.pointer (some ⟨W.heap.size, 0, none⟩)]) ∧ w' = W.alloc (.cells #[.map mb] 50) :=
  (callsIn_wide (n := 5)).1 (AnyZ.keys_in keysLays Fence.wide 5 trivial rfl mb W)
/-! Go's order on texts, and the sorted list without doubles. -/
def ltB (a b : ByteArray) : Bool := Op.bytesLess a.toList b.toList
theorem ltB_iff (a b : ByteArray) : ltB a b = true ↔ a.toList < b.toList := by unfold ltB; rw [bytesLess_eq, decide_eq_true_eq]
theorem ltB_irrefl (a : ByteArray) : ltB a a = false := by rw [Bool.eq_false_iff]; intro h; exact List.lt_irrefl _ ((ltB_iff a a).1 h)
theorem ltB_trans {a b c : ByteArray} (h1 : ltB a b = true) (h2 : ltB b c = true) : ltB a c = true := (ltB_iff a c).2 (List.lt_trans ((ltB_iff a b).1 h1) ((ltB_iff b c).1 h2))
theorem ltB_total {a b : ByteArray} (h : ltB a b = false) (hne : a ≠ b) : ltB b a = true := by
  rw [ltB_iff]
  have h1 : ¬ a.toList < b.toList := fun h' => by rw [(ltB_iff a b).2 h'] at h; cases h
  have h2 : b.toList ≤ a.toList := List.not_lt.1 h1
  rcases Classical.em (b.toList < a.toList) with h3 | h3
  · exact h3
  · exact absurd ((bs_eq a b).1 (List.le_antisymm (List.not_lt.1 h3) h2)) hne
def insB (x : ByteArray) : List ByteArray → List ByteArray
  | [] => [x]
  | y :: r => if ltB y x = true then y :: insB x r else if y = x then y :: r else x :: y :: r
theorem insB_mem (x z : ByteArray) : ∀ l, z ∈ insB x l ↔ z = x ∨ z ∈ l := by
  intro l
  induction l with
  | nil => unfold insB; simp
  | cons y r ih =>
    unfold insB
    by_cases h1 : ltB y x = true
    · rw [if_pos h1, List.mem_cons, ih, List.mem_cons]
      constructor
      · rintro (h | h | h)
        · exact .inr (.inl h)
        · exact .inl h
        · exact .inr (.inr h)
      · rintro (h | h | h)
        · exact .inr (.inl h)
        · exact .inl h
        · exact .inr (.inr h)
    · rw [if_neg h1]
      by_cases h2 : y = x
      · rw [if_pos h2, List.mem_cons]
        constructor
        · rintro h; exact .inr h
        · rintro (h | h)
          · exact .inl (h.trans h2.symm)
          · exact h
      · rw [if_neg h2, List.mem_cons]
def SortedB (l : List ByteArray) : Prop := l.Pairwise (fun a b => ltB a b = true)
theorem insB_sorted (x : ByteArray) : ∀ l, SortedB l → SortedB (insB x l) := by
  intro l
  induction l with
  | nil => intro _; unfold insB SortedB; simp
  | cons y r ih =>
    intro h
    unfold SortedB at h
    rw [List.pairwise_cons] at h
    unfold insB
    by_cases h1 : ltB y x = true
    · rw [if_pos h1]; unfold SortedB; rw [List.pairwise_cons]
      refine ⟨fun z hz => ?_, ih h.2⟩
      rcases (insB_mem x z r).1 hz with rfl | hz
      · exact h1
      · exact h.1 z hz
    · rw [if_neg h1]
      by_cases h2 : y = x
      · rw [if_pos h2]; unfold SortedB; rw [List.pairwise_cons]; exact h
      · rw [if_neg h2]; unfold SortedB; rw [List.pairwise_cons, List.pairwise_cons]
        have h3 : ltB x y = true := ltB_total (Bool.eq_false_iff.mpr h1) h2
        refine ⟨fun z hz => ?_, h⟩
        rcases List.mem_cons.1 hz with rfl | hz
        · exact h3
        · exact ltB_trans h3 (h.1 z hz)
theorem SortedB.nodup {l : List ByteArray} (h : SortedB l) : l.Nodup := by
  refine List.Pairwise.imp ?_ h
  intro a b hab e
  subst e
  rw [ltB_irrefl] at hab; cases hab
/-- a sorted list is told by what it holds -/
theorem SortedB.unique {l m : List ByteArray} (hl : SortedB l) (hm : SortedB m) (h : ∀ x, x ∈ l ↔ x ∈ m) : l = m := by
  refine List.Perm.eq_of_pairwise (le := fun a b => ltB a b = true) (fun a b _ _ h1 h2 => ?_) hl hm ((List.perm_ext_iff_of_nodup hl.nodup hm.nodup).2 h)
  have := ltB_trans h1 h2
  rw [ltB_irrefl] at this; cases this
def ofB (ls : List ByteArray) : List ByteArray := ls.foldl (fun acc s => if s = noneS then acc else insB s acc) []
theorem ofB_fold : ∀ (ls acc : List ByteArray), SortedB acc → SortedB (ls.foldl (fun acc s => if s = noneS then acc else insB s acc) acc) ∧ ∀ z, z ∈ ls.foldl (fun acc s => if s = noneS then acc else insB s acc) acc ↔ (z ∈ ls ∧ z ≠ noneS) ∨ z ∈ acc := by
  intro ls
  induction ls with
  | nil => intro acc h; exact ⟨h, fun z => by simp⟩
  | cons s r ih =>
    intro acc h
    rw [List.foldl_cons]
    by_cases hs : s = noneS
    · rw [if_pos hs]
      obtain ⟨h1, h2⟩ := ih acc h
      refine ⟨h1, fun z => ?_⟩
      rw [h2, List.mem_cons]
      constructor
      · rintro (⟨a, b⟩ | a)
        · exact .inl ⟨.inr a, b⟩
        · exact .inr a
      · rintro (⟨a | a, b⟩ | a)
        · exact absurd (a.trans hs) b
        · exact .inl ⟨a, b⟩
        · exact .inr a
    · rw [if_neg hs]
      obtain ⟨h1, h2⟩ := ih (insB s acc) (insB_sorted s acc h)
      refine ⟨h1, fun z => ?_⟩
      rw [h2, List.mem_cons, insB_mem]
      constructor
      · rintro (⟨a, b⟩ | a | a)
        · exact .inl ⟨.inr a, b⟩
        · exact .inl ⟨.inl a, by rw [a]; exact hs⟩
        · exact .inr a
      · rintro (⟨a | a, b⟩ | a)
        · exact .inr (.inl a)
        · exact .inl ⟨a, b⟩
        · exact .inr (.inr a)
theorem ofB_sorted (ls : List ByteArray) : SortedB (ofB ls) := (ofB_fold ls [] List.Pairwise.nil).1
theorem ofB_mem (ls : List ByteArray) (z : ByteArray) : z ∈ ofB ls ↔ z ∈ ls ∧ z ≠ noneS := by
  have := (ofB_fold ls [] List.Pairwise.nil).2 z
  simp only [List.not_mem_nil, or_false] at this; exact this
theorem insB_length (x : ByteArray) : ∀ l, (insB x l).length ≤ l.length + 1 := by
  intro l
  induction l with
  | nil => exact Nat.le_refl _
  | cons y r ih =>
    unfold insB
    split
    · rw [List.length_cons, List.length_cons]; omega
    · split
      · omega
      · rw [List.length_cons]; omega
theorem fold_length : ∀ (ls acc : List ByteArray), (ls.foldl (fun acc s => if s = noneS then acc else insB s acc) acc).length ≤ ls.length + acc.length := by
  intro ls
  induction ls with
  | nil => intro acc; show acc.length ≤ _; omega
  | cons s r ih =>
    intro acc
    rw [List.foldl_cons, List.length_cons]
    have h := ih (if s = noneS then acc else insB s acc)
    have h2 : (if s = noneS then acc else insB s acc).length ≤ acc.length + 1 := by
      split
      · omega
      · exact insB_length s acc
    omega
theorem ofB_length (ls : List ByteArray) : (ofB ls).length ≤ ls.length := fold_length ls []
theorem mk_toList (b : ByteArray) : (⟨b.toList.toArray⟩ : ByteArray) = b := by rw [ByteArray.toList_eq]
open Go.Shelf Go.Sort Go.Maps in
set_option maxHeartbeats 1000000 in
/-- slices.Sorted of a map's keys: the sorted list of what the map holds. -/
theorem sortedKeys_calls (b n : Nat) (f : ByteArray → Option Value) (l : List ByteArray) (w : World) (hM : MapIs encS w Try.prog 9 b n f) (hn : n ≤ 1000000) (hl : SortedB l) (hf : ∀ x, (f x).isSome = true ↔ x ∈ l) :
    Calls Try.prog 32 #[.func (.func 48) #[] #[.pointer (some ⟨w.heap.size, 0, none⟩)]] (w.alloc (.cells #[.map (some b)] 50)) fun e w' => ∃ v, e = .returned v ∧ Kd.R Kd.string 9 w' (w.alloc (.cells #[.map (some b)] 50)).heap.size (fun _ => True) v l ∧ Below (w.alloc (.cells #[.map (some b)] 50)).heap.size (w.alloc (.cells #[.map (some b)] 50)) w' := by
  obtain ⟨D0, hown, hh, _⟩ := hM
  have hbl := hown.lt
  have hsz : Maps.size D0 ≤ 1000000 := Nat.le_trans hown.size_le hn
  have hseq : SeqGives Fence.wide 2 Try.prog 48 #[.pointer (some ⟨w.heap.size, 0, none⟩)] encStr (fun ss => ss.Perm (strKeys D0)) (Maps.size D0) (w.alloc (.cells #[.map (some b)] 50)) :=
    AnyZ.keys_gives (ρ := keysRen) { keysLays with } Fence.wide _ trivial rfl (by omega) w.heap.size b n D0 _ (by simp) (by simp) (by
      obtain ⟨es, clock, hb, Ft, hs, hD⟩ := hown
      exact ⟨es, clock, (Below.heap_alloc _ _ b hbl).trans hb, Ft, hs, hD⟩)
  have hc := (callsIn_wide (n := 5)).1 (AnyZ.sorted_in sortedLays Fence.wide 5 trivial trivial trivial trivial rfl (by omega) (sortsLays _) (enters_of Try.func47 (by kernel_rfl) rfl) 48 #[.pointer (some ⟨w.heap.size, 0, none⟩)] trivial (enters_of Try.func48 (by kernel_rfl) rfl) _ _ (by unfold maxLen; omega) (by omega) _ hseq)
  have hkeys : (l.map fun x => x.toList).Perm (strKeys D0) := by
    obtain ⟨es, hD, hpw, _⟩ := hown.entries law_str
    obtain ⟨es', hD', hko⟩ := hown.keysOf
    obtain rfl : es = es' := by rw [hD] at hD'; simpa using hD'
    subst hD
    refine perm_strKeys hpw (fun p hp => by obtain ⟨v, hv⟩ := hko p hp; obtain ⟨x, _, hx, _⟩ := Maps.keyOf_str Try.underlying9 hv; exact ⟨x, hx⟩) ?_ fun x => ?_
    · refine List.pairwise_map.2 (hl.nodup.imp ?_)
      intro a b hne e
      exact hne ((bs_eq a b).1 e)
    · have h1 := hh ⟨x.toArray⟩
      have h2 : encS ⟨x.toArray⟩ = .string x := by unfold encS; simp
      rw [h2] at h1
      rw [h1, hf]
      rw [List.mem_map]
      constructor
      · rintro ⟨y, hy, rfl⟩; rw [mk_toList]; exact hy
      · intro hy; exact ⟨_, hy, by rw [ByteArray.toList_eq]⟩
  refine hc.mono ?_
  rintro e w' ⟨v, ss, rfl, hperm, hrow, _, hbel⟩
  have hms : ss.mergeSort leB = l.map fun x => x.toList := by
    rw [mergeSort_of_perm (hperm.trans hkeys.symm)]
    refine List.Perm.eq_of_pairwise (le := fun a b => leB a b = true) (fun a b _ _ h1 h2 => ?_) (List.pairwise_mergeSort (fun a b c h1 h2 => ?_) (fun a b => ?_) _) ?_ (List.mergeSort_perm _ _)
    · simp only [leB, decide_eq_true_eq] at h1 h2
      exact List.le_antisymm h1 h2
    · simp only [leB, decide_eq_true_eq] at *; exact List.le_trans h1 h2
    · simp only [leB, Bool.or_eq_true, decide_eq_true_eq]; exact List.le_total a b
    · refine List.pairwise_map.2 (hl.imp ?_)
      intro a b hab
      simp only [leB, decide_eq_true_eq]
      exact List.le_of_lt ((ltB_iff a b).1 hab)
  have hrow2 : (ss.mergeSort (fun x y => decide (x ≤ y))).map encStr = l.map Value.string := by
    show (ss.mergeSort leB).map encStr = _
    rw [hms, List.map_map]
    refine List.map_congr_left fun x _ => ?_
    show Value.string ⟨x.toList.toArray⟩ = _
    rw [mk_toList]
  have hlen : ss.length = l.length := by rw [(hperm.trans hkeys.symm).length_eq, List.length_map]
  rw [hrow2, hlen] at hrow
  exact ⟨v, rfl, Kd.R_of_own hrow (fun _ _ => trivial), hbel⟩

/-! ### scripts_Of: function 15 -/
def scripts_Of.f (l0_0 : List ByteArray) (l0_1 : List Sp) (l1 : List Int) : Option (List ByteArray) := if scrPre l0_0 l1 = true then some (ofB (reals l0_0 l0_1 l1)) else none
set_option maxHeartbeats 1600000 in
set_option maxRecDepth 100000 in
theorem scripts_Of.calls (A0_0 : Option Addr) (c0_0 : Nat) (l0_0 : List ByteArray) (A0_1 : Option Addr) (c0_1 : Nat) (l0_1 : List Sp) (A1 : Option Addr) (c1 : Nat) (l1 : List Int) (r : List ByteArray) (w : World) (hr0_0 : Kd.C Kd.string w A0_0 l0_0.length l0_0) (hc0_0 : l0_0.length ≤ c0_0) (hr0_1 : Kd.C k45 w A0_1 l0_1.length l0_1) (hc0_1 : l0_1.length ≤ c0_1) (hr1 : Kd.C (Kd.int .i64) w A1 l1.length l1) (hc1 : l1.length ≤ c1) (h : scripts_Of.f l0_0 l0_1 l1 = some r) :
    Calls Try.prog 15 #[.agg #[.slice A0_0 l0_0.length c0_0, .slice A0_1 l0_1.length c0_1], .slice A1 l1.length c1] w fun e w' => ∃ v0_ : Value, e = .returned (v0_) ∧ Kd.R Kd.string 9 w' w.heap.size (fun _ => True) v0_ r ∧ Below w.heap.size w w' := by
  unfold scripts_Of.f at h
  by_cases hz : scrPre l0_0 l1 = true
  case neg => rw [if_neg hz] at h; cases h
  rw [if_pos hz] at h
  obtain rfl := Option.some.inj h
  have hreal : scripts_real.f l0_0 l0_1 l1 = some (reals l0_0 l0_1 l1) := by unfold scripts_real.f; rw [if_pos hz]
  have hlen : (reals l0_0 l0_1 l1).length ≤ 1000000 := by
    unfold scrPre at hz; simp only [Bool.and_eq_true, decide_eq_true_eq] at hz; unfold reals; rw [List.length_map]; exact hz.2
  have hsz : sizesB (reals l0_0 l0_1 l1) = true := by
    unfold scrPre at hz; simp only [Bool.and_eq_true, decide_eq_true_eq] at hz
    unfold sizesB reals
    rw [List.all_eq_true]
    intro s hs
    obtain ⟨c, _, rfl⟩ := List.mem_map.1 hs
    rw [decide_eq_true_eq]
    unfold realOf realS
    split
    · decide
    · exact nameOf_size hz.1.1 l0_1 c
  generalize reals l0_0 l0_1 l1 = ls at hreal hlen hsz ⊢
  have HR := Aside0.mk hreal
  have HZ := Aside0.mk hsz
  have R0 := Aside0.mk hr0_0
  have R1 := Aside0.mk hr0_1
  have R2 := Aside0.mk hr1
  clear h hr0_0 hr0_1 hr1 hz hreal hsz
  have hmm := @run_makeMap Try.prog
  go_enter Try.func15, Try.ntmps15
  go_wp2_with fail
  refine (scripts_real.calls _ _ _ _ _ _ _ _ _ _ _ (Kd.C_below R0.out ?_) hc0_0 (Kd.C_below R1.out ?_) hc0_1 (Kd.C_below R2.out ?_) hc1 HR.out).mono ?_
  · exact below_alloc ((Below.refl _ _).alloc (Nat.le_refl _) _) _
  · exact below_alloc ((Below.refl _ _).alloc (Nat.le_refl _) _) _
  · exact below_alloc ((Below.refl _ _).alloc (Nat.le_refl _) _) _
  rintro e w1 ⟨v, rfl, hR, hb⟩
  obtain ⟨W, hW⟩ : ∃ W, W = (w.alloc (.cells #[.slice A0_0 l0_0.length c0_0, .slice A0_1 l0_1.length c0_1] 25)) := ⟨_, rfl⟩
  have BW : Below w.heap.size w W := by rw [hW]; exact (Below.refl _ _).alloc (Nat.le_refl _) _
  have hWs : W.heap.size = w.heap.size + 1 := by rw [hW]; simp
  rw [← hW] at hR hb
  have HM := Aside0.mk ((MapIs.made (enc := encS) W Try.prog 9).below hb)
  have HB := Aside0.mk ((below_alloc BW _).trans (hb.mono (Nat.le_trans BW.size (by simp))))
  obtain ⟨Av, cv, ev⟩ := Kd.R_slice hR
  subst ev
  have HC := Aside0.mk (Kd.R_lower hR (show w.heap.size ≤ _ from Nat.le_trans BW.size (by simp)))
  have hcap : ls.length ≤ cv := (Kd.R_reads' hR).2.1
  have HBW := Aside0.mk BW
  rw [← hWs]
  clear hW hR hb HR R0 R1 R2 BW hWs
  go_wp2
  go_loopw [13] (fun i wr => ∃ (k : Nat) (f : ByteArray → Option Value), k ≤ ls.length ∧ i = .int .i64 k ∧ Aside0 (MapIs encS wr Try.prog 9 W.heap.size k f) ∧ Aside0 (∀ x, (f x).isSome = true ↔ x ∈ ls.take k ∧ x ≠ noneS) ∧ Aside0 (Kd.R Kd.string 9 wr w.heap.size (fun _ => True) (.slice Av ls.length cv) ls) ∧ Aside0 (Below w.heap.size w wr)) (fun i _ => ls.length - (intOf i).toNat)
  case atStart => exact ⟨0, fun _ => none, Nat.zero_le _, rfl, ⟨HM.out⟩, ⟨fun x => by simp⟩, HC, HB⟩
  case round =>
    obtain ⟨k, f, hk, rfl, hM, hF, hC, hB⟩ := hrel
    by_cases hlt : k < ls.length
    · obtain ⟨ad, e, x0⟩ := Kd.at_string (Kd.R_reads' hC.out).2.2 (k : Int) (by omega) (by omega)
      subst e
      obtain ⟨x, hx⟩ : ∃ x, x = rdOf ByteArray.empty ls (k : Int) := ⟨_, rfl⟩
      have hkey := Aside0.mk (key_str x (by rw [hx]; exact sizes_at HZ.out k))
      rw [← hx] at x0
      have htake : Aside0 (ls.take (k + 1) = ls.take k ++ [x]) := ⟨by rw [hx, List.take_succ_eq_append_getElem hlt]; show _ = _ ++ [ls.getD k _]; rw [List.getD_eq_getElem?_getD, List.getElem?_eq_getElem hlt]; rfl⟩
      clear hx
      rw [show ((k : Int)).toNat = k from rfl] at x0
      by_cases hn : x = noneS
      · have t1 : (x.toList == ([] : List UInt8)) = true := by rw [hn, noneS_l]; decide
        have t2 : x.toList = [] := by rw [hn, noneS_l]
        have t3 : (x.toList.isEmpty) = true := by rw [t2]; rfl
        have HN := Aside0.mk hn
        clear hn
        go_wp2
        refine ⟨⟨k + 1, f, by omega, by go_num, ⟨hM.out.mono (Nat.le_succ _)⟩, ⟨fun y => ?_⟩, hC, hB⟩, by simp [intOf]; omega⟩
        rw [hF.out, htake.out, List.mem_append, List.mem_singleton]
        constructor
        · rintro ⟨a, b⟩; exact ⟨.inl a, b⟩
        · rintro ⟨a | a, b⟩
          · exact ⟨a, b⟩
          · exact absurd (a.trans HN.out) b
      · have t1 : (x.toList == ([] : List UInt8)) = false := by rw [beq_eq_false_iff_ne]; exact fun h => hn ((noneS_iff x).1 h)
        have t2 : ¬ x.toList = [] := fun h => hn ((noneS_iff x).1 h)
        have t3 : (x.toList.isEmpty) = false := by rw [List.isEmpty_eq_false_iff]; exact t2
        have HN := Aside0.mk hn
        clear hn
        go_wp2_with (at_mapUpdate; refine wpList_mapis_upd _ rfl _ _ _ 50 rfl 9 4 law_str Try.underlying50 W.heap.size k f rfl hM.out encS_inj (by unfold maxLen; omega) _ _ x rfl rfl hkey.out (encS_key x) ?_; intro w2 hM2 hg2)
        go_roundw
        case rel =>
          refine ⟨k + 1, _, by omega, by go_num, ⟨hM2⟩, ⟨fun y => ?_⟩, ⟨?_⟩, ⟨hB.out.grown hg2 hB.out.size (fun j hj => by cases hj; exact HBW.out.size)⟩⟩
          · by_cases hy : y = x
            · subst hy; rw [if_pos rfl, htake.out]
              exact ⟨fun _ => ⟨List.mem_append.2 (.inr (List.mem_singleton.2 rfl)), HN.out⟩, fun _ => rfl⟩
            · rw [if_neg hy, hF.out, htake.out, List.mem_append, List.mem_singleton]
              constructor
              · rintro ⟨a, b⟩; exact ⟨.inl a, b⟩
              · rintro ⟨a | a, b⟩
                · exact ⟨a, b⟩
                · exact absurd a hy
          · exact Kd.R_off_map hC.out hM.out hg2
        case measure => simp [intOf]; omega
    · obtain rfl : k = ls.length := by omega
      rw [List.take_length] at hF
      have HK := Aside0.mk (sortedKeys_calls W.heap.size ls.length f (ofB ls) wr hM.out hlen (ofB_sorted ls) (fun x => by rw [hF.out, ofB_mem]))
      go_wp2_with (first | (go_at_call 33; refine (keys_calls _ _).mono ?_; rintro e w2 ⟨rfl, rfl⟩) | (go_at_call 32; refine HK.out.mono ?_; rintro e w3 ⟨vr, rfl, hRr, hbr⟩))
      go_ret
      refine ⟨vr, rfl, Kd.R_lower hRr ?_, (below_alloc hB.out _).trans (hbr.mono ?_)⟩
      · exact Nat.le_trans hB.out.size (by simp)
      · exact Nat.le_trans hB.out.size (by simp)

end Go.Proofs.Ytneelkaelcilfaa.PA

-- Laid by hprint.py (this session's program, over the kit's print) for the seat Ytneelkaelcilfaa. Lean checks it.
import Derived.Test.YtneelkaelcilfaaPAx0
import Derived.Test.YtneelkaelcilfaaPAx2
import Derived.Test.YtneelkaelcilfaaPAx5
import Derived.Test.YtneelkaelcilfaaPAx7
import Derived.Test.YtneelkaelcilfaaPAx8
import Derived.Test.YtneelkaelcilfaaPAx9
import Derived.Test.YtneelkaelcilfaaPAx10
namespace Go.Proofs.Ytneelkaelcilfaa.PA
open Go.RowKit Go.Proofs.YtneelkaelcilfaaW.PrintWords Go.Proofs.YtneelkaelcilfaaW.PrintLast Go.Proofs.YtneelkaelcilfaaW.PrintMore
attribute [local go_sem] max2_int min2_int max_two min_two max_three min_three max_four min_four   -- for this text's walks alone
set_option linter.unusedVariables false
set_option linter.unusedSimpArgs false

/-! ### scripts_Resolved: function 12 -/
def atB (ls : List ByteArray) (q : Rg) : ByteArray := ls.getD q.f0.toNat ByteArray.empty
/-- the first run of a script -/
def firstR (ls : List ByteArray) (rs : List Rg) (s : ByteArray) : Option Rg := rs.find? fun q => decide (atB ls q = s)
def resolvedR (rl : List ByteArray) : List Rg := (ofB rl).map fun s => (firstR (resolvedB rl) (runsB (resolvedB rl)) s).getD z38
def rgV (q : Rg) : Value := .agg #[.int .i64 q.f0, .int .i64 q.f1]
theorem zero_rg (w : World) : (zeroValue 38).run Try.prog w = .ok (.agg #[.int .i64 0, .int .i64 0]) w := by kernel_rfl
theorem fillB_length : ∀ (l : List ByteArray) (x : ByteArray), (fillB x l).length = l.length := by
  intro l
  induction l with
  | nil => intro x; rfl
  | cons s r ih => intro x; rw [fillB, List.length_cons, List.length_cons, ih]
theorem resolvedB_length (l : List ByteArray) : (resolvedB l).length = l.length := fillB_length l _
theorem fillB_sizes : ∀ (l : List ByteArray) (x : ByteArray), x.size ≤ 9223372036854775807 → sizesB l = true → sizesB (fillB x l) = true := by
  intro l
  induction l with
  | nil => intro x _ _; rfl
  | cons s r ih =>
    intro x hx h
    unfold sizesB at h ⊢
    rw [List.all_cons, Bool.and_eq_true, decide_eq_true_eq] at h
    have h3 : (if s = noneS then x else s).size ≤ 9223372036854775807 := by
      split
      · exact hx
      · exact h.1
    rw [fillB, List.all_cons, Bool.and_eq_true, decide_eq_true_eq]
    exact ⟨h3, ih _ h3 h.2⟩
theorem firstB_size (l : List ByteArray) (h : sizesB l = true) : (firstB l).size ≤ 9223372036854775807 := by
  rcases idx_first l 0 with ⟨_, h2⟩ | ⟨j, _, _, h3⟩
  · rw [h2]; decide
  · rw [h3]; exact sizes_at h j
theorem resolvedB_sizes (l : List ByteArray) (h : sizesB l = true) : sizesB (resolvedB l) = true := fillB_sizes l _ (firstB_size l h) h
theorem reals_sizes {names : List ByteArray} {text : List Int} (spans : List Sp) (hz : sizesB names = true) : sizesB (reals names spans text) = true := by
  unfold sizesB reals
  rw [List.all_eq_true]
  intro s hs
  obtain ⟨c, _, rfl⟩ := List.mem_map.1 hs
  rw [decide_eq_true_eq]
  unfold realOf realS
  split
  · decide
  · exact nameOf_size hz spans c
theorem firstR_snoc (ls : List ByteArray) (rs : List Rg) (q : Rg) (s : ByteArray) : firstR ls (rs ++ [q]) s = (firstR ls rs s).or (if atB ls q = s then some q else none) := by
  unfold firstR
  rw [List.find?_append]
  congr 1
  rw [List.find?_cons]
  by_cases h : atB ls q = s
  · rw [if_pos h, decide_eq_true h]
  · rw [if_neg h, decide_eq_false h]; rfl
def scripts_Resolved.f (l0_0 : List ByteArray) (l0_1 : List Sp) (l1 : List Int) : Option (List Rg) := if scrPre l0_0 l1 = true then some (resolvedR (reals l0_0 l0_1 l1)) else none
set_option maxHeartbeats 1600000 in
set_option maxRecDepth 100000 in
theorem scripts_Resolved.calls (A0_0 : Option Addr) (c0_0 : Nat) (l0_0 : List ByteArray) (A0_1 : Option Addr) (c0_1 : Nat) (l0_1 : List Sp) (A1 : Option Addr) (c1 : Nat) (l1 : List Int) (r : List Rg) (w : World) (hr0_0 : Kd.C Kd.string w A0_0 l0_0.length l0_0) (hc0_0 : l0_0.length ≤ c0_0) (hr0_1 : Kd.C k45 w A0_1 l0_1.length l0_1) (hc0_1 : l0_1.length ≤ c0_1) (hr1 : Kd.C (Kd.int .i64) w A1 l1.length l1) (hc1 : l1.length ≤ c1) (h : scripts_Resolved.f l0_0 l0_1 l1 = some r) :
    Calls Try.prog 12 #[.agg #[.slice A0_0 l0_0.length c0_0, .slice A0_1 l0_1.length c0_1], .slice A1 l1.length c1] w fun e w' => ∃ v0_ : Value, e = .returned (v0_) ∧ Kd.R k38 38 w' w.heap.size (fun _ => True) v0_ r ∧ Below w.heap.size w w' := by
  unfold scripts_Resolved.f at h
  by_cases hz : scrPre l0_0 l1 = true
  case neg => rw [if_neg hz] at h; cases h
  rw [if_pos hz] at h
  obtain rfl := Option.some.inj h
  have hof : scripts_Of.f l0_0 l0_1 l1 = some (ofB (reals l0_0 l0_1 l1)) := by unfold scripts_Of.f; rw [if_pos hz]
  have hres : scripts_resolved.f l0_0 l0_1 l1 = some (resolvedB (reals l0_0 l0_1 l1)) := by unfold scripts_resolved.f; rw [if_pos hz]
  unfold scrPre at hz
  simp only [Bool.and_eq_true, decide_eq_true_eq] at hz
  have hlen : (reals l0_0 l0_1 l1).length ≤ 1000000 := by unfold reals; rw [List.length_map]; exact hz.2
  have hsz : sizesB (reals l0_0 l0_1 l1) = true := reals_sizes l0_1 hz.1.1
  generalize reals l0_0 l0_1 l1 = rl at hof hres hlen hsz ⊢
  obtain ⟨ls, hls⟩ : ∃ ls, ls = resolvedB rl := ⟨_, rfl⟩
  obtain ⟨rs, hrs⟩ : ∃ rs, rs = runsB ls := ⟨_, rfl⟩
  obtain ⟨ns, hns⟩ : ∃ ns, ns = ofB rl := ⟨_, rfl⟩
  have hout : resolvedR rl = ns.map fun s => (firstR ls rs s).getD z38 := by unfold resolvedR; rw [← hls, ← hrs, ← hns]
  rw [hout]
  rw [← hls] at hres
  rw [← hns] at hof
  have hlsl : ls.length ≤ 1000000 := by rw [hls, resolvedB_length]; exact hlen
  have hlss : sizesB ls = true := by rw [hls]; exact resolvedB_sizes rl hsz
  have hnsl : ns.length ≤ 1000000 := by rw [hns]; exact Nat.le_trans (ofB_length rl) hlen
  have hnss : sizesB ns = true := by
    unfold sizesB; rw [List.all_eq_true]; intro x hx
    rw [hns] at hx
    have := ((ofB_mem rl x).1 hx).1
    unfold sizesB at hsz
    exact (List.all_eq_true.1 hsz) x this
  have hruns : scripts_runs_string.f 1000001 ls = some rs := by rw [hrs]; exact runs_f ls hlsl _ (by omega)
  have hrsl : rs.length ≤ 1000000 := by rw [hrs]; exact Nat.le_trans (runsB_len ls) hlsl
  have hrin : ∀ q ∈ rs, 0 ≤ q.f0 ∧ q.f0 < (ls.length : Int) := by
    intro q hq; rw [hrs] at hq; have := runsB_in ls q hq; exact ⟨this.1, by omega⟩
  have HO := Aside0.mk hof
  have HRe := Aside0.mk hres
  have HRu := Aside0.mk hruns
  have HIn := Aside0.mk hrin
  have HS := Aside0.mk hlss
  have HNS := Aside0.mk hnss
  have R0 := Aside0.mk hr0_0
  have R1 := Aside0.mk hr0_1
  have R2 := Aside0.mk hr1
  clear h hr0_0 hr0_1 hr1 hz hof hres hruns hrin hlss hnss hout hls hrs hns hsz hlen
  have hmm := @run_makeMap Try.prog
  go_enter Try.func12, Try.ntmps12
  go_wp2_with fail
  refine (scripts_resolved.calls _ _ _ _ _ _ _ _ _ _ _ (Kd.C_below R0.out ?_) hc0_0 (Kd.C_below R1.out ?_) hc0_1 (Kd.C_below R2.out ?_) hc1 HRe.out).mono ?_
  · exact ((Below.refl _ _).alloc (Nat.le_refl _) _)
  · exact ((Below.refl _ _).alloc (Nat.le_refl _) _)
  · exact ((Below.refl _ _).alloc (Nat.le_refl _) _)
  rintro e w1 ⟨v, rfl, hR, hb⟩
  obtain ⟨W, hW⟩ : ∃ W, W = (w.alloc (.cells #[.slice A0_0 l0_0.length c0_0, .slice A0_1 l0_1.length c0_1] 25)) := ⟨_, rfl⟩
  have BW : Below w.heap.size w W := by rw [hW]; exact (Below.refl _ _).alloc (Nat.le_refl _) _
  have b0 : W.cell? ⟨w.heap.size, 0, none⟩ = some (.slice A0_0 l0_0.length c0_0) := by rw [hW]; simp
  have b1 : W.cell? ⟨w.heap.size, 1, none⟩ = some (.slice A0_1 l0_1.length c0_1) := by rw [hW]; simp
  rw [← hW] at hR hb
  have B1 := BW.trans (hb.mono BW.size)
  have d0 := pw_cell_below hb b0
  have d1 := pw_cell_below hb b1
  have HR1 := Aside0.mk (Kd.R_lower hR BW.size)
  obtain ⟨Av, cv, ev⟩ := Kd.R_slice hR
  subst ev
  have hcap : ls.length ≤ cv := (Kd.R_reads' hR).2.1
  have HB1 := Aside0.mk B1
  have hWs : w.heap.size < W.heap.size := by rw [hW]; simp
  have hne3 : some w.heap.size ≠ some w1.heap.size := by intro e; injection e with e; have := hb.size; omega
  clear hW hR hb BW b0 b1 B1
  have HM1 := Aside0.mk (MapIs.made (enc := encS) w1 Try.prog 9)
  have HR2 := Aside0.mk (Kd.R_below HR1.out (below_alloc (Below.refl _ _) (.map #[] 0)))
  have HB2 := Aside0.mk (below_alloc HB1.out (.map #[] 0))
  go_wp2_with (go_at_call 29; refine (scripts_runs_string.calls 1000001 _ _ _ _ _ (Kd.R_reads' HR2.out).2.2 hcap HRu.out).mono ?_; rintro e w2 ⟨v3, rfl, hR3, hb3⟩; obtain ⟨Ar, cr, er⟩ := Kd.R_slice hR3; subst er)
  have d2 := pw_cell_below hb3 (pw_cell_below (below_alloc (Below.refl w1.heap.size w1) (.map #[] 0)) d0)
  have d3 := pw_cell_below hb3 (pw_cell_below (below_alloc (Below.refl w1.heap.size w1) (.map #[] 0)) d1)
  have HR3 := Aside0.mk (Kd.R_lower hR3 HB2.out.size)
  have HB3 := Aside0.mk (HB2.out.trans (hb3.mono HB2.out.size))
  have HM3 := Aside0.mk (HM1.out.below hb3)
  have HL3 := Aside0.mk (Kd.R_below HR2.out hb3)
  have hb1s : w.heap.size ≤ w1.heap.size := HB1.out.size
  clear hR3 hb3 HR2 HB2 HM1 HR1 d0 d1
  go_loopw [21] (fun i wr => ∃ (k : Nat) (f : ByteArray → Option Value), k ≤ rs.length ∧ i = .int .i64 k ∧ Aside0 (MapIs encS wr Try.prog 9 w1.heap.size k f) ∧ Aside0 (∀ s, f s = (firstR ls (rs.take k) s).map rgV) ∧ Aside0 (Kd.R Kd.string 9 wr w.heap.size (fun _ => True) (.slice Av ls.length cv) ls) ∧ Aside0 (Kd.R k38 38 wr w.heap.size (fun _ => True) (.slice Ar rs.length cr) rs) ∧ Aside0 (wr.cell? ⟨w.heap.size, 0, none⟩ = some (.slice A0_0 l0_0.length c0_0) ∧ wr.cell? ⟨w.heap.size, 1, none⟩ = some (.slice A0_1 l0_1.length c0_1)) ∧ Aside0 (Below w.heap.size w wr)) (fun i _ => rs.length - (intOf i).toNat)
  case atStart => exact ⟨0, fun _ => none, Nat.zero_le _, rfl, HM3, ⟨fun s => rfl⟩, HL3, HR3, ⟨⟨d2, d3⟩⟩, HB3⟩
  case round =>
    obtain ⟨k, f, hk, rfl, hM, hF, hL, hRs, hD, hB⟩ := hrel
    by_cases hlt : k < rs.length
    · obtain ⟨ad, e, x0, x1⟩ := at_T38 (Kd.R_reads' hRs.out).2.2 (k : Int) (by omega) (by omega)
      subst e
      obtain ⟨q, hq⟩ : ∃ q, q = rd_T38 rs (k : Int) := ⟨_, rfl⟩
      have hqm : q ∈ rs := by
        rw [hq]; unfold rd_T38
        rw [List.getD_eq_getElem?_getD, show ((k : Int)).toNat = k from rfl, List.getElem?_eq_getElem hlt]
        exact List.getElem_mem hlt
      obtain ⟨hq0, hq1⟩ := HIn.out q hqm
      obtain ⟨ad2, e2, y0⟩ := Kd.at_string (Kd.R_reads' hL.out).2.2 q.f0 hq0 hq1
      subst e2
      obtain ⟨x, hx⟩ : ∃ x, x = rdOf ByteArray.empty ls q.f0 := ⟨_, rfl⟩
      have hkey := Aside0.mk (key_str x (by rw [hx]; exact sizes_at HS.out q.f0.toNat))
      rw [← hx] at y0
      rw [← hq, show ((k : Int)).toNat = k from rfl] at x0 x1
      have htake : Aside0 (rs.take (k + 1) = rs.take k ++ [q]) := ⟨by rw [hq, List.take_succ_eq_append_getElem hlt]; show _ = _ ++ [rs.getD k _]; rw [List.getD_eq_getElem?_getD, List.getElem?_eq_getElem hlt]; rfl⟩
      have hat : Aside0 (atB ls q = x) := ⟨hx.symm⟩
      have hsf : f x = (firstR ls (rs.take k) x).map rgV := hF.out x
      have y1 := pw_cell_below (below_alloc (Below.refl wr.heap.size wr) (.cells #[.int .i64 q.f0, .int .i64 q.f1] 38)) y0
      clear hx hq hqm
      cases hf : firstR ls (rs.take k) x with
      | some q0 =>
        rw [hf] at hsf
        go_wp2_with (at_lookup; refine wpList_mapis_ok _ rfl _ _ 46 rfl 9 38 law_str Try.underlying46 (zero_rg _) w1.heap.size k f rfl (hM.out.alloc _) _ x rfl hkey.out ?_; simp only [hsf, Option.map_some, Option.map_none, Option.getD_some, Option.isSome_some, Option.getD_none, Option.isSome_none, rgV])
        go_roundw
        case rel =>
          refine ⟨k + 1, f, by omega, by go_num, ⟨((hM.out.alloc _).alloc _).mono (Nat.le_succ _)⟩, ⟨fun s => ?_⟩, ⟨Kd.R_alloc (Kd.R_alloc hL.out _) _⟩, ⟨Kd.R_alloc (Kd.R_alloc hRs.out _) _⟩, ⟨⟨?_, ?_⟩⟩, ⟨below_alloc (below_alloc hB.out _) _⟩⟩
          · rw [hF.out, htake.out, firstR_snoc, hat.out]
            by_cases hs : x = s
            · rw [← hs, hf]; rfl
            · rw [if_neg hs]; cases firstR ls (rs.take k) s <;> rfl
          · exact pw_cell_below (below_alloc (below_alloc (Below.refl wr.heap.size wr) _) _) hD.out.1
          · exact pw_cell_below (below_alloc (below_alloc (Below.refl wr.heap.size wr) _) _) hD.out.2
        case measure => simp [intOf]; omega
      | none =>
        rw [hf] at hsf
        go_wp2_with (at_lookup; refine wpList_mapis_ok _ rfl _ _ 46 rfl 9 38 law_str Try.underlying46 (zero_rg _) w1.heap.size k f rfl (hM.out.alloc _) _ x rfl hkey.out ?_; simp only [hsf, Option.map_some, Option.map_none, Option.getD_some, Option.isSome_some, Option.getD_none, Option.isSome_none, rgV])
        obtain ⟨X, hX⟩ : ∃ X, X = ((wr.alloc (.cells #[.int .i64 q.f0, .int .i64 q.f1] 38)).alloc (.cells #[.int .i64 0, .int .i64 0] 38)) := ⟨_, rfl⟩
        have BX : Below wr.heap.size wr X := by rw [hX]; exact below_alloc (below_alloc (Below.refl _ _) _) _
        have z0 : X.cell? ⟨wr.heap.size, 0, none⟩ = some (.int .i64 q.f0) := by rw [hX]; simp
        have z1 : X.cell? ⟨wr.heap.size, 1, none⟩ = some (.int .i64 q.f1) := by rw [hX]; simp
        have z2 : X.cell? (ad2.add q.f0.toNat) = some (.string x) := pw_cell_below BX y0
        have hMX := Aside0.mk (hM.out.below BX)
        have hBX := Aside0.mk (hB.out.trans (BX.mono hB.out.size))
        have HBX := Aside0.mk BX
        rw [← hX]
        clear hX x0 x1 y0 y1 BX
        obtain ⟨w5, hrun, hM5, hg5⟩ := MapIs.update (w := X.drew) hMX.out law_str Try.underlying46 encS_inj (by unfold maxLen; omega) hkey.out (encS_key x) (.agg #[.int .i64 q.f0, .int .i64 q.f1])
        have hne1 : some wr.heap.size ≠ some w1.heap.size := by
          intro e; injection e with e; have := hM.out.lt; omega
        have hne2 : some (ad2.add q.f0.toNat).block ≠ some w1.heap.size := by
          intro e
          have e2 : (ad2.add q.f0.toNat).block = ad2.block := by unfold Addr.add; split <;> rfl
          rw [e2] at e
          exact MapIs.ne_row hM.out hL.out e.symm
        have v0 : w5.cell? ⟨wr.heap.size, 0, none⟩ = some (.int .i64 q.f0) := World.grownBy.cell hg5 (show X.drew.cell? _ = _ from z0) hne1
        have v1 : w5.cell? ⟨wr.heap.size, 1, none⟩ = some (.int .i64 q.f1) := World.grownBy.cell hg5 (show X.drew.cell? _ = _ from z1) hne1
        have v2 : w5.cell? (ad2.add q.f0.toNat) = some (.string x) := World.grownBy.cell hg5 (show X.drew.cell? _ = _ from z2) hne2
        have HL5 := Aside0.mk (Kd.R_off_map (Kd.R_drew (Kd.R_below hL.out HBX.out)) hMX.out hg5)
        have HR5 := Aside0.mk (Kd.R_off_map (Kd.R_drew (Kd.R_below hRs.out HBX.out)) hMX.out hg5)
        have HD5 := Aside0.mk (show w5.cell? ⟨w.heap.size, 0, none⟩ = some (.slice A0_0 l0_0.length c0_0) ∧ w5.cell? ⟨w.heap.size, 1, none⟩ = some (.slice A0_1 l0_1.length c0_1) from ⟨World.grownBy.cell hg5 (show X.drew.cell? _ = _ from pw_cell_below HBX.out hD.out.1) hne3, World.grownBy.cell hg5 (show X.drew.cell? _ = _ from pw_cell_below HBX.out hD.out.2) hne3⟩)
        have HB5 := Aside0.mk ((below_drew hBX.out).grown hg5 (Nat.le_trans hBX.out.size (Nat.le_refl _)) (fun j hj => by cases hj; exact hb1s))
        have HM5 := Aside0.mk hM5
        have HG5 := Aside0.mk hg5
        clear hM5 hg5
        go_region_held3 (fun w' => w'.cell? ⟨wr.heap.size, 0, none⟩ = some (.int .i64 q.f0) ∧ w'.cell? ⟨wr.heap.size, 1, none⟩ = some (.int .i64 q.f1) ∧ w'.cell? (ad2.add q.f0.toNat) = some (.string x))
          (first
            | go_keep
            | (go_split_ands; exact ⟨by assumption, by assumption, by assumption⟩))
          (first
            | (go_at_call 1000000; skip))
        go_wp2
        refine ⟨⟨k + 1, _, by omega, by go_num, HM5, ⟨fun s => ?_⟩, HL5, HR5, HD5, HB5⟩, by simp [intOf]; omega⟩
        rw [htake.out, firstR_snoc, hat.out]
        by_cases hs : s = x
        · subst hs; rw [if_pos rfl, if_pos rfl, hf]; rfl
        · rw [if_neg hs, if_neg (fun e => hs e.symm), hF.out]; cases firstR ls (rs.take k) s <;> rfl
    · obtain rfl : k = rs.length := by omega
      have hF2 : Aside0 (∀ s, f s = (firstR ls rs s).map rgV) := ⟨fun s => by have := hF.out s; rw [List.take_length] at this; exact this⟩
      clear hF
      obtain ⟨c0, c1⟩ := hD.out
      go_wp2_with (go_at_call 15; refine (scripts_Of.calls _ _ _ _ _ _ _ _ _ _ _ (Kd.C_below R0.out hB.out) hc0_0 (Kd.C_below R1.out hB.out) hc0_1 (Kd.C_below R2.out hB.out) hc1 HO.out).mono ?_; rintro e w6 ⟨v6, rfl, hR6, hb6⟩; obtain ⟨An, cn, en⟩ := Kd.R_slice hR6; subst en)
      have HM6 := Aside0.mk (hM.out.below hb6)
      have HB6 := Aside0.mk (hB.out.trans (hb6.mono hB.out.size))
      have HN6 := Aside0.mk (Kd.R_lower hR6 hB.out.size)
      clear hR6 hb6 hM hB hL hRs hD c0 c1
      obtain ⟨g, hg⟩ : ∃ g : ByteArray → Rg, g = fun s => (firstR ls rs s).getD z38 := ⟨_, rfl⟩
      have HG := Aside0.mk hg
      have hbs : w1.heap.size < w6.heap.size := HM6.out.lt
      clear hg
      go_loopw [11, 49] (fun v i wr => ∃ (k : Nat) (ys : List Rg), k ≤ ns.length ∧ Aside0 (ys.length = k) ∧ i = .int .i64 k ∧ Aside0 (ys = (ns.take k).map g) ∧ Aside0 (Kd.R k38 38 wr w6.heap.size (fun _ => True) v ys) ∧ Aside0 (Below w6.heap.size w6 wr)) (fun _ i _ => ns.length - (intOf i).toNat)
      case atStart => exact ⟨0, [], Nat.zero_le _, ⟨rfl⟩, rfl, ⟨rfl⟩, ⟨Kd.R_nil _ _ _ _ _⟩, ⟨Below.refl _ _⟩⟩
      case round =>
        obtain ⟨k, ys, hk, hyl, rfl, hys, hR, hB6⟩ := hrel
        have hM := Aside0.mk (HM6.out.below hB6.out)
        obtain ⟨Av2, cv2, ev2⟩ := Kd.R_slice hR.out
        subst ev2
        by_cases hlt : k < ns.length
        · obtain ⟨ad, e, x0⟩ := Kd.at_string (Kd.C_below (Kd.R_reads' HN6.out).2.2 hB6.out) (k : Int) (by omega) (by omega)
          subst e
          obtain ⟨x, hx⟩ : ∃ x, x = rdOf ByteArray.empty ns (k : Int) := ⟨_, rfl⟩
          have hkey := Aside0.mk (key_str x (by rw [hx]; exact sizes_at HNS.out k))
          rw [← hx, show ((k : Int)).toNat = k from rfl] at x0
          have htake : Aside0 ((ns.take (k + 1)).map g = (ns.take k).map g ++ [g x]) := ⟨by rw [hx, List.take_succ_eq_append_getElem hlt, List.map_append]; show _ ++ [g ns[k]] = _ ++ [g (ns.getD k _)]; rw [List.getD_eq_getElem?_getD, List.getElem?_eq_getElem hlt]; rfl⟩
          have hval : (f x).getD (.agg #[.int .i64 0, .int .i64 0]) = .agg #[.int .i64 (g x).f0, .int .i64 (g x).f1] := by
            rw [hF2.out, HG.out]
            show _ = Value.agg #[.int .i64 ((firstR ls rs x).getD z38).f0, .int .i64 ((firstR ls rs x).getD z38).f1]
            cases firstR ls rs x <;> rfl
          clear hx
          go_wp2_with (first | (at_lookup; refine wpList_mapis _ rfl _ _ 46 rfl 9 38 law_str Try.underlying46 (zero_rg _) w1.heap.size _ f rfl hM.out _ x rfl hkey.out ?_; rw [hval]) | (at_builtin; refine Kd.R_append k38 (w0 := w6) w6.heap.size rfl (.tmp 53) (.tmp 57) 29 38 (.agg #[(.int .i64 0), (.int .i64 0)]) 16 rfl Try.underlying29 info38 rfl (by decide) (by omega) _ _ (g x) [.int .i64 (g x).f0, .int .i64 (g x).f1] (fun _ => True) (fun _ => False) rfl rfl (k38_mkM _ _ _ (g x)) (fun _ hk => hk.elim) (fun _ _ => trivial) hR.out hB6.out hB6.out.size ?aL ?_; (case aL => have := hyl.out; omega); intro v1 w7 ho hb hg hat))
          go_roundw
          case rel =>
            refine ⟨k + 1, ys ++ [g x], by omega, ⟨by rw [List.length_append, hyl.out]; rfl⟩, by go_num, ⟨by rw [htake.out, hys.out]⟩, ⟨ho⟩, ⟨hb⟩⟩
          case measure => simp [intOf]; omega
        · obtain rfl : k = ns.length := by omega
          have hfin : Aside0 (ys = ns.map fun s => (firstR ls rs s).getD z38) := ⟨by rw [hys.out, List.take_length, HG.out]⟩
          go_wp2
          go_ret
          refine ⟨_, rfl, ?_, HB6.out.trans (hB6.out.mono HB6.out.size)⟩
          rw [← hfin.out]
          exact Kd.R_lower hR.out HB6.out.size

end Go.Proofs.Ytneelkaelcilfaa.PA

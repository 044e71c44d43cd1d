-- Laid by hprint.py (this session's program, over the kit's print) for the seat YthnkkohhohkbkaaDoor. Lean checks it.
import Derived.Test.YthnkkohhohkbkaaDoorMPx0
import Derived.Test.YthnkkohhohkbkaaDoorMPx2
import Derived.Test.YthnkkohhohkbkaaDoorMPx3
namespace Go.Proofs.YthnkkohhohkbkaaDoor.MP
open Go.RowKit Go.Proofs.YthnkkohhohkbkaaDoorW.PrintWords Go.Proofs.YthnkkohhohkbkaaDoorW.PrintLast Go.Proofs.YthnkkohhohkbkaaDoorW.PrintMore
attribute [local go_sem] max2_int min2_int max_two min_two max_three min_three max_four min_four   -- for this text's walks alone
set_option linter.unusedVariables false
set_option linter.unusedSimpArgs false

/-! ### charset_Parse: function 11 -/
/-- the codes of lines: what is set so far, and which characters have been met -/
def parseG : List ByteArray → Nat → List Int → List Int → Option (List Int × Int × Int)
  | [], _, codes, _ => some (codes, 0, 0)
  | l :: r, i, codes, seen =>
    if l.toList = [] then parseG r (i + 1) codes seen
    else (charset_line.f 100 l).bind fun t =>
      if t.2.2 = true then (if 0 ≤ t.1 ∧ t.1 < 256 ∧ -9223372036854775808 ≤ t.2.1 ∧ t.2.1 ≤ 9223372036854775807 then (if codes.getD t.1.toNat 0 = -1 ∧ (seen.any fun y => decide (y = t.2.1)) = false then parseG r (i + 1) (codes.set t.1.toNat t.2.1) (seen ++ [t.2.1]) else some ([], 5, ((i + 1 : Nat) : Int))) else none)
      else some ([], 3, ((i + 1 : Nat) : Int))
def charset_Parse.f (a0 : ByteArray) : Option (List Int × Int × Int) := if a0.size > 65536 then some ([], 2, 0) else parseG (linesB a0) 0 (List.replicate 256 (-1)) []
theorem ownI {w : World} {B base : Nat} {l : List Int} (h : w.heap[B]? = some (.cells (cellsI l).toArray 3 (0, 0))) (hb : base ≤ B) (hl : l.length ≤ 1000) : Kd.R (Kd.int .i64) 3 w base (fun _ => True) (.slice (some ⟨B, 0, none⟩) l.length l.length) l := by
  have hlt : B < w.heap.size := by
    by_cases hc : B < w.heap.size
    · exact hc
    · rw [Array.getElem?_eq_none (by omega)] at h; cases h
  refine Kd.R_of_own (enc := Value.int .i64) (h1 := fun _ => rfl) ⟨by simp [encs], .inr ⟨B, l.length, (cellsI l).toArray, rfl, hb, h, Nat.le_refl _, by unfold maxLen; omega, by simp [cellsI], ?_⟩⟩ (fun _ _ => trivial)
  simp [encs, cellsI]
  exact List.take_of_length_le (by simp)
theorem dropL (l : List ByteArray) (k : Nat) (h : k < l.length) : l.drop k = rdOf ByteArray.empty l (k : Int) :: l.drop (k + 1) := drop_at l ByteArray.empty k h
theorem oneI (W : World) (x : Int) : Kd.C (Kd.int .i64) (W.alloc (.cells #[.int .i64 x] 3)) (some ⟨W.heap.size, 0, none⟩) 1 [x] := by
  have h := ownI (w := W.alloc (.cells #[.int .i64 x] 3)) (B := W.heap.size) (base := 0) (l := [x]) (MapKept.heap_alloc W _).1 (Nat.zero_le _) (by simp)
  exact (Kd.R_reads' h).2.2
theorem cellsI_at (l : List Int) (n : Nat) (h : n < l.length) : (cellsI l).toArray[n]? = some (.int .i64 (l.getD n 0)) := by
  simp [cellsI, h]
theorem cellsI_set (l : List Int) (n : Nat) (x : Int) : (cellsI l).toArray.setIfInBounds n (.int .i64 x) = (cellsI (l.set n x)).toArray := by
  simp [cellsI, List.map_set]
theorem two_new (w : World) (o1 o2 : Obj) : ((w.alloc o1).alloc o2).heap[w.heap.size]? = some o1 ∧ ((w.alloc o1).alloc o2).heap[w.heap.size + 1]? = some o2 := by
  have e : w.heap.size + 1 = (w.alloc o1).heap.size := by simp
  refine ⟨blk_alloc (blk_new w o1) o2, ?_⟩
  rw [e]; exact blk_new _ _
def ResAt (P : Program) (w wr : World) : Prop := wr.heap[w.heap.size]? = some (.cells #[.slice none 0 0] 24 (0, 0)) ∧ wr.heap[w.heap.size + 1]? = some (.cells #[.int .i64 0, .int .i64 0] 31 (0, 0))
theorem ret_at {P : Program} {w w3 : World} (hz : ResAt P w w3) (v x y : Value) :
    (((w3.setCell ⟨w.heap.size, 0, none⟩ v).setCell ⟨w.heap.size + 1, 0, none⟩ x).setCell ⟨w.heap.size + 1, 1, none⟩ y).heap[w.heap.size]? = some (.cells #[v] 24 (0, 0)) ∧
    (((w3.setCell ⟨w.heap.size, 0, none⟩ v).setCell ⟨w.heap.size + 1, 0, none⟩ x).setCell ⟨w.heap.size + 1, 1, none⟩ y).heap[w.heap.size + 1]? = some (.cells #[x, y] 31 (0, 0)) :=
  ⟨blk_far (blk_far (blk_set hz.1 0 v) (by show w.heap.size ≠ w.heap.size + 1; omega) _) (by show w.heap.size ≠ w.heap.size + 1; omega) _, blk_set (blk_set (blk_far hz.2 (by show w.heap.size + 1 ≠ w.heap.size; omega) _) 0 x) 1 y⟩
theorem below_at {w w3 : World} (hb : Below w.heap.size w w3) (v x y : Value) : Below w.heap.size w (((w3.setCell ⟨w.heap.size, 0, none⟩ v).setCell ⟨w.heap.size + 1, 0, none⟩ x).setCell ⟨w.heap.size + 1, 1, none⟩ y) :=
  ((hb.setCell (Nat.le_refl _) _).setCell (Nat.le_succ _) _).setCell (Nat.le_succ _) _
set_option maxHeartbeats 6400000 in
set_option maxRecDepth 100000 in
theorem charset_Parse.calls (a0 : ByteArray) (r1 : List Int) (r2 : Int) (r3 : Int) (w : World) (h : charset_Parse.f a0 = some (r1, r2, r3)) :
    Calls Tryd.prog 11 #[.string a0] w fun e w' => ∃ v0_ : Value, e = .returned (.tuple #[.agg #[v0_], .agg #[.int .i64 r2, .int .i64 r3]]) ∧ Kd.R (Kd.int .i64) 3 w' w.heap.size (fun _ => True) v0_ r1 ∧ Below w.heap.size w w' := by
  unfold charset_Parse.f at h
  by_cases hs : a0.size > 65536
  · rw [if_pos hs] at h
    injection h with h
    injection h with h1 h2
    injection h2 with h2 h3
    subst h1; subst h2; subst h3
    go_enter Tryd.func11, Tryd.ntmps11
    go_wp2
    refine bodyPost_ret (results_cc rfl _ _ w.heap.size (w.heap.size + 1) 24 31 #[.slice none 0 0] #[.int .i64 2, .int .i64 0] (0, 0) (0, 0) _ _ rfl (two_new w _ _).1 Tryd.underlying24 rfl (by kernel_rfl) rfl (two_new w _ _).2 Tryd.underlying31 rfl (by kernel_rfl)) rfl ?_
    exact ⟨_, rfl, Kd.R_nil _ _ _ _ _, below_alloc (below_alloc (Below.refl _ _) _) _⟩
  rw [if_neg hs] at h
  have hsp : strings_Split.f a0 ⟨#[10]⟩ = some (linesB a0) := by unfold strings_Split.f; rw [if_pos (by omega), if_pos rfl]
  have hll : (linesB a0).length ≤ 65537 := by
    rw [lines_len]
    have := Go.Lib.countB_le ⟨#[10]⟩ (by decide) a0.size a0 (Nat.le_refl _)
    omega
  generalize hL : linesB a0 = L at h hsp hll
  have HSP := Aside0.mk hsp
  have HH := Aside0.mk h
  clear h hsp hL
  have hC1 : Kd.C (Kd.int .i64) (((w.alloc (.cells #[.slice none 0 0] 24)).alloc (.cells #[.int .i64 0, .int .i64 0] 31)).alloc (.cells #[.int .i64 (-1)] 3)) (some ⟨w.heap.size + 1 + 1, 0, none⟩) 1 [-1] := by
    rw [show w.heap.size + 1 + 1 = ((w.alloc (.cells #[.slice none 0 0] 24)).alloc (.cells #[.int .i64 0, .int .i64 0] 31)).heap.size from by simp]
    exact oneI _ _
  have HC1 := Aside0.mk hC1
  have HLL := Aside0.mk hll
  have hs2 : ¬ (65536 : Int) < (a0.size : Int) := by omega
  clear hs hC1 hll
  have hmm := @run_makeMap Tryd.prog
  go_enter Tryd.func11, Tryd.ntmps11
  go_wp2_with (first | (go_at_call 23; refine (repeat_calls _ _ (-1) _ HC1.out (Nat.le_refl _)).mono ?_; rintro e w1 ⟨B, rfl, hB1, hB2, hb⟩) | (go_at_call 24; refine (strings_Split.calls _ _ _ _ HSP.out).mono ?_; rintro e w2 ⟨v, rfl, hR, hb2⟩; obtain ⟨Av, cv, ev⟩ := Kd.R_slice hR; subst ev))
  have hsz : w.heap.size + 2 ≤ w1.heap.size := by have := hb.size; simp at this; omega
  have hBl : B < w1.heap.size := blk_lt hB2
  have hBg : w.heap.size + 2 < B := by simp at hB1; omega
  have hz0 : ResAt Tryd.prog w (((w.alloc (.cells #[.slice none 0 0] 24)).alloc (.cells #[.int .i64 0, .int .i64 0] 31)).alloc (.cells #[.int .i64 (-1)] 3)) := ⟨blk_alloc (two_new w _ _).1 _, blk_alloc (two_new w _ _).2 _⟩
  have HZ := Aside0.mk (show ResAt Tryd.prog w w2 from ⟨blk_below (blk_alloc (blk_below hz0.1 hb) _) hb2, blk_below (blk_alloc (blk_below hz0.2 hb) _) hb2⟩)
  have HB := Aside0.mk (show Below w.heap.size w w2 from (below_alloc ((below_alloc (below_alloc (below_alloc (Below.refl _ w) _) _) _).trans (hb.mono (by simp; omega))) _).trans (hb2.mono (by simp; omega)))
  have HCo := Aside0.mk (blk_below (blk_alloc hB2 (.map #[] 0)) hb2)
  have HM := Aside0.mk ((MapIs.made (enc := encI) w1 Tryd.prog 3).below hb2)
  have HR := Aside0.mk (Kd.R_lower hR (Nat.zero_le _))
  clear hz0 hb hb2 hB2 hR hB1
  go_loopw [22] (fun i wr => ∃ (k : Nat) (codes seen : List Int) (f : Int → Option Value), k ≤ L.length ∧ i = .int .i64 k ∧ Aside0 (codes.length = 256) ∧ Aside0 (wr.heap[B]? = some (.cells (cellsI codes).toArray 3 (0, 0))) ∧ Aside0 (MapIs encI wr Tryd.prog 3 w1.heap.size k f) ∧ Aside0 (∀ x, f x = if (seen.any fun y => decide (y = x)) = true then some (.bool true) else none) ∧ Aside0 (parseG (L.drop k) k codes seen = some (r1, r2, r3)) ∧ Aside0 (ResAt Tryd.prog w wr) ∧ Aside0 (Kd.R Kd.string 9 wr 0 (fun _ => True) (.slice Av L.length cv) L) ∧ Aside0 (Below w.heap.size w wr)) (fun i _ => L.length - (intOf i).toNat)
  case atStart => exact ⟨0, List.replicate 256 (-1), [], fun _ => none, Nat.zero_le _, rfl, ⟨List.length_replicate ..⟩, HCo, HM, ⟨fun _ => rfl⟩, HH, HZ, HR, HB⟩
  case round =>
    obtain ⟨k, codes, seen, f, hk, rfl, hcl, hC, hM, hF, hG, hZ, hR, hB⟩ := hrel
    have hkl : k ≤ 65537 := Nat.le_trans hk HLL.out
    have hwk : IntKind.i64.wrap ((k : Int) + 1) = ((k + 1 : Nat) : Int) := by rw [IntKind.wrap_i64]; omega
    have HW := Aside0.mk hwk
    clear hwk
    by_cases hlt : k < L.length
    · obtain ⟨ad, e, x0⟩ := Kd.at_string (Kd.R_reads' hR.out).2.2 (k : Int) (by omega) (by omega)
      cases e
      obtain ⟨x, hx⟩ : ∃ x, x = rdOf ByteArray.empty L (k : Int) := ⟨_, rfl⟩
      rw [← hx, show ((k : Int)).toNat = k from rfl] at x0
      have hdr := dropL L k hlt
      rw [← hx] at hdr
      have hg := hG.out
      rw [hdr, parseG] at hg
      clear hdr hx
      by_cases hle : x.toList = []
      · rw [if_pos hle] at hg
        have HG := Aside0.mk hg
        clear hg
        go_wp2
        go_roundw
        case rel => exact ⟨k + 1, codes, seen, f, by omega, by go_num, hcl, hC, ⟨hM.out.mono (Nat.le_succ _)⟩, hF, HG, hZ, hR, hB⟩
        case measure => simp [intOf]; omega
      · rw [if_neg hle] at hg
        cases hl : charset_line.f 100 x with
        | none => rw [hl] at hg; cases hg
        | some t =>
          obtain ⟨b, c, ok⟩ := t
          rw [hl, Option.bind_some] at hg
          have HL := Aside0.mk hl
          have hle2 : (x.toList == []) = false := by cases hq : x.toList with
            | nil => exact absurd hq hle
            | cons => rfl
          clear hl hle
          cases ok with
          | false =>
            have hg : some (([] : List Int), (3 : Int), ((k + 1 : Nat) : Int)) = some (r1, r2, r3) := hg
            injection hg with hg
            injection hg with g1 g2
            injection g2 with g2 g3
            have G3 := Aside0.mk g3
            subst g1; subst g2
            clear g3
            go_wp2_with (go_at_call 25; refine (charset_line.calls 100 _ _ _ _ _ HL.out).mono ?_; rintro e w3 ⟨rfl, hb3⟩; have hz3 : ResAt Tryd.prog w w3 := ⟨blk_below hZ.out.1 hb3, blk_below hZ.out.2 hb3⟩; have z0 := blk_cell (hz3.1) 0; have z1 := blk_cell (hz3.2) 0; have z2 := blk_cell (hz3.2) 1; have fz0 := blk_frozen (hz3.1) 0; have fz1 := blk_frozen (hz3.2) 0; have fz2 := blk_frozen (hz3.2) 1)
            refine bodyPost_ret (results_cc rfl _ _ w.heap.size (w.heap.size + 1) 24 31 _ _ (0, 0) (0, 0) _ _ rfl (ret_at (P := Tryd.prog) hz3 _ _ _).1 Tryd.underlying24 rfl (by kernel_rfl) rfl (ret_at (P := Tryd.prog) hz3 _ _ _).2 Tryd.underlying31 rfl (by kernel_rfl)) rfl ?_
            exact ⟨.slice none 0 0, by rw [← G3.out]; rfl, Kd.R_nil _ _ _ _ _, below_at (hB.out.trans (hb3.mono hB.out.size)) _ _ _⟩
          | true =>
            have hg : (if 0 ≤ b ∧ b < 256 ∧ -9223372036854775808 ≤ c ∧ c ≤ 9223372036854775807 then (if codes.getD b.toNat 0 = -1 ∧ (seen.any fun y => decide (y = c)) = false then parseG (L.drop (k + 1)) (k + 1) (codes.set b.toNat c) (seen ++ [c]) else some ([], 5, ((k + 1 : Nat) : Int))) else none) = some (r1, r2, r3) := hg
            by_cases hbc : 0 ≤ b ∧ b < 256 ∧ -9223372036854775808 ≤ c ∧ c ≤ 9223372036854775807
            case neg => rw [if_neg hbc] at hg; cases hg
            rw [if_pos hbc] at hg
            obtain ⟨hb0, hb1, hc0, hc1⟩ := hbc
            obtain ⟨n, rfl⟩ := Int.eq_ofNat_of_zero_le hb0
            rw [Int.toNat_natCast] at hg
            have HK := Aside0.mk (key_int c ⟨hc0, hc1⟩)
            have hn : n < 256 := by omega
            have cn : ∀ W : World, W.heap[B]? = some (.cells (cellsI codes).toArray 3 (0, 0)) → W.cell? ⟨B, n, none⟩ = some (.int .i64 (codes.getD n 0)) := fun W hW => (blk_cell hW n).trans (cellsI_at codes n (by rw [hcl.out]; exact hn))
            have CN := Aside0.mk cn
            generalize hq : codes.getD n 0 = q at hg cn CN
            have HQ := Aside0.mk hq
            clear cn hc0 hc1 hq
            by_cases hq : q = -1
            · by_cases hsn : (seen.any fun y => decide (y = c)) = false
              · rw [if_pos ⟨hq, hsn⟩] at hg
                have hfx : f c = none := by rw [hF.out c, hsn, if_neg (by decide)]
                have HG := Aside0.mk hg
                have HS := Aside0.mk hsn
                subst hq
                clear hg hsn
                go_wp2_with (first | (go_at_call 25; refine (charset_line.calls 100 _ _ _ _ _ HL.out).mono ?_; rintro e w3 ⟨rfl, hb3⟩; have hz3 : ResAt Tryd.prog w w3 := ⟨blk_below hZ.out.1 hb3, blk_below hZ.out.2 hb3⟩; have hc3 := CN.out w3 (blk_below hC.out hb3); have hlk := (hM.out.below hb3).look law_int Tryd.underlying58 (zero_bool _) HK.out; rw [hfx, Option.getD_none] at hlk; have fzc := blk_frozen (blk_below hC.out hb3) n; skip) | (at_mapUpdate; refine wpList_mapis_upd _ rfl _ _ _ 58 rfl 3 4 law_int Tryd.underlying58 w1.heap.size k f rfl ((hM.out.below hb3).setCell (a := ⟨B, n, none⟩) (by show w1.heap.size ≠ B; omega) (.int .i64 c)) encI_inj (by unfold maxLen; omega) _ _ c rfl rfl HK.out (encI_key c) ?_; intro w5 hM5 hg5))
                go_roundw
                case rel =>
                  have hC4 := (cellsI_set codes n c) ▸ blk_set (blk_below hC.out hb3) n (.int .i64 c)
                  refine ⟨k + 1, codes.set n c, seen ++ [c], _, by omega, by go_num, ⟨by rw [List.length_set]; exact hcl.out⟩, ⟨blk_grown hC4 hg5 (by intro e; injection e with e; omega)⟩, ⟨hM5⟩, ⟨fun y => ?_⟩, HG, ⟨?_⟩, ⟨?_⟩, ⟨?_⟩⟩
                  · rw [any_snoc]
                    by_cases hy : y = c
                    · subst hy; rw [if_pos rfl, decide_eq_true rfl, Bool.or_true, if_pos rfl]; rfl
                    · rw [if_neg hy, decide_eq_false (fun e => hy e.symm), Bool.or_false]; exact hF.out y
                  · exact ⟨blk_grown (blk_far hz3.1 (by show w.heap.size ≠ B; omega) _) hg5 (by intro e; injection e with e; omega), blk_grown (blk_far hz3.2 (by show w.heap.size + 1 ≠ B; omega) _) hg5 (by intro e; injection e with e; omega)⟩
                  · exact Kd.R_off_map (Kd.R_set (Kd.R_below hR.out hb3) (blk_below hC.out hb3) (by intro q hq e; revert hq; rw [e]; decide) n _) ((hM.out.below hb3).setCell (a := ⟨B, n, none⟩) (by show w1.heap.size ≠ B; omega) (.int .i64 c)) hg5
                  · have hb4 := (hB.out.trans (hb3.mono hB.out.size)).setCell (p := ⟨B, n, none⟩) (by show w.heap.size ≤ B; omega) (.int .i64 c)
                    exact hb4.grown hg5 hb4.size (fun j hj => by cases hj; omega)
                case measure => simp [intOf]; omega
              · have hsn' : (seen.any fun y => decide (y = c)) = true := by
                  cases hv : (seen.any fun y => decide (y = c)) with
                  | true => rfl
                  | false => exact absurd hv hsn
                have hfx : f c = some (.bool true) := by rw [hF.out c, hsn', if_pos rfl]
                rw [if_neg (fun hh => hsn hh.2)] at hg
                injection hg with hg
                injection hg with g1 g2
                injection g2 with g2 g3
                have G3 := Aside0.mk g3
                subst g1; subst g2; subst hq
                clear g3 hsn hsn'
                go_wp2_with (go_at_call 25; refine (charset_line.calls 100 _ _ _ _ _ HL.out).mono ?_; rintro e w3 ⟨rfl, hb3⟩; have hz3 : ResAt Tryd.prog w w3 := ⟨blk_below hZ.out.1 hb3, blk_below hZ.out.2 hb3⟩; have hc3 := CN.out w3 (blk_below hC.out hb3); have hlk := (hM.out.below hb3).look law_int Tryd.underlying58 (zero_bool _) HK.out; rw [hfx, Option.getD_some] at hlk; have fzc := blk_frozen (blk_below hC.out hb3) n; have z0 := blk_cell (hz3.1) 0; have z1 := blk_cell (hz3.2) 0; have z2 := blk_cell (hz3.2) 1; have fz0 := blk_frozen (hz3.1) 0; have fz1 := blk_frozen (hz3.2) 0; have fz2 := blk_frozen (hz3.2) 1)
                refine bodyPost_ret (results_cc rfl _ _ w.heap.size (w.heap.size + 1) 24 31 _ _ (0, 0) (0, 0) _ _ rfl (ret_at (P := Tryd.prog) hz3 _ _ _).1 Tryd.underlying24 rfl (by kernel_rfl) rfl (ret_at (P := Tryd.prog) hz3 _ _ _).2 Tryd.underlying31 rfl (by kernel_rfl)) rfl ?_
                exact ⟨.slice none 0 0, by rw [← G3.out]; rfl, Kd.R_nil _ _ _ _ _, below_at (hB.out.trans (hb3.mono hB.out.size)) _ _ _⟩
            · rw [if_neg (fun hh => hq hh.1)] at hg
              injection hg with hg
              injection hg with g1 g2
              injection g2 with g2 g3
              have G3 := Aside0.mk g3
              subst g1; subst g2
              clear g3
              go_wp2_with (go_at_call 25; refine (charset_line.calls 100 _ _ _ _ _ HL.out).mono ?_; rintro e w3 ⟨rfl, hb3⟩; have hz3 : ResAt Tryd.prog w w3 := ⟨blk_below hZ.out.1 hb3, blk_below hZ.out.2 hb3⟩; have hc3 := CN.out w3 (blk_below hC.out hb3); have z0 := blk_cell (hz3.1) 0; have z1 := blk_cell (hz3.2) 0; have z2 := blk_cell (hz3.2) 1; have fz0 := blk_frozen (hz3.1) 0; have fz1 := blk_frozen (hz3.2) 0; have fz2 := blk_frozen (hz3.2) 1)
              refine bodyPost_ret (results_cc rfl _ _ w.heap.size (w.heap.size + 1) 24 31 _ _ (0, 0) (0, 0) _ _ rfl (ret_at (P := Tryd.prog) hz3 _ _ _).1 Tryd.underlying24 rfl (by kernel_rfl) rfl (ret_at (P := Tryd.prog) hz3 _ _ _).2 Tryd.underlying31 rfl (by kernel_rfl)) rfl ?_
              exact ⟨.slice none 0 0, by rw [← G3.out]; rfl, Kd.R_nil _ _ _ _ _, below_at (hB.out.trans (hb3.mono hB.out.size)) _ _ _⟩
    · have hkL : L.drop k = [] := List.drop_of_length_le (by omega)
      have hg := hG.out
      rw [hkL, parseG] at hg
      injection hg with hg
      injection hg with g1 g2
      injection g2 with g2 g3
      subst g1; subst g2; subst g3
      clear hkL
      have hz3 := hZ.out
      have z0 := blk_cell (hz3.1) 0; have z1 := blk_cell (hz3.2) 0; have z2 := blk_cell (hz3.2) 1; have fz0 := blk_frozen (hz3.1) 0; have fz1 := blk_frozen (hz3.2) 0; have fz2 := blk_frozen (hz3.2) 1
      go_wp2
      refine bodyPost_ret (results_cc rfl _ _ w.heap.size (w.heap.size + 1) 24 31 _ _ (0, 0) (0, 0) _ _ rfl (ret_at (P := Tryd.prog) hz3 _ _ _).1 Tryd.underlying24 rfl (by kernel_rfl) rfl (ret_at (P := Tryd.prog) hz3 _ _ _).2 Tryd.underlying31 rfl (by kernel_rfl)) rfl ?_
      have hrow : ∀ W : World, W.heap[B]? = some (.cells (cellsI codes).toArray 3 (0, 0)) → Kd.R (Kd.int .i64) 3 W w.heap.size (fun _ => True) (.slice (some ⟨B, 0, none⟩) 256 256) codes := fun W hW => by
        have h := ownI (base := w.heap.size) hW (by omega) (by rw [hcl.out]; decide)
        rwa [hcl.out] at h
      exact ⟨_, rfl, hrow _ (blk_far (blk_far (blk_far hC.out (p := ⟨w.heap.size, 0, none⟩) (by show B ≠ w.heap.size; omega) _) (p := ⟨w.heap.size + 1, 0, none⟩) (by show B ≠ w.heap.size + 1; omega) _) (p := ⟨w.heap.size + 1, 1, none⟩) (by show B ≠ w.heap.size + 1; omega) _), below_at hB.out _ _ _⟩

/-! ### charset_open: function 13 -/
/-- the byte of a character: the last place of the codes that has it -/
def byteG : List Int → Nat → Option Int → Int → Option Int
  | [], _, acc, _ => acc
  | y :: r, i, acc, x => byteG r (i + 1) (if y = x ∧ ¬ y = -1 then some (i : Int) else acc) x
def byteOf (l : List Int) (x : Int) : Option Int := byteG l 0 none x
def u8V (x : Int) : Value := .int .u8 x
def keyI (x : Int) : Prop := -9223372036854775808 ≤ x ∧ x ≤ 9223372036854775807
theorem resT {P : Program} {fn : Func} {p : Tmp} {ty : TypeId} (h : fn.results = #[.cell p ty]) (tmps : Array Value) (w : World) (g : Nat) (t : TypeId) (cs : Array Value) (fr : Nat × Nat) (d : TypeDesc)
    (hp : tmps.getD p undef = .pointer (some ⟨g, 0, none⟩)) (hg : w.heap[g]? = some (.cells cs t fr))
    (hu : P.underlying ty = some d) (hd : (match d with | .struct _ | .array _ _ => true | _ => false) = true) (hi : (P.info? ty).map (·.size) = some cs.size) :
    (results fn tmps).run P w = .ok (.agg cs) w := by
  have hp' : tmps[p]?.getD undef = .pointer (some ⟨g, 0, none⟩) := by simpa using hp
  simp [results, h, hp', asAddr, run_loadVar_row w g t ty cs fr d hg hu hd hi]
set_option maxHeartbeats 3200000 in
set_option maxRecDepth 100000 in
theorem open_calls (A0 : Option Addr) (c0 : Nat) (l0 : List Int) (w : World) (hr0 : Kd.C (Kd.int .i64) w A0 l0.length l0) (hc0 : l0.length ≤ c0) (hz : intsB l0 = true) (hl : l0.length ≤ 256) :
    Calls Tryd.prog 13 #[.agg #[.slice A0 l0.length c0]] w fun e w' => ∃ (b : Nat) (f : Int → Option Value), e = .returned (.agg #[.map (some b)]) ∧ w.heap.size ≤ b ∧ MapIs encI w' Tryd.prog 3 b 256 f ∧ (∀ x, f x = (byteOf l0 x).map u8V) ∧ Below w.heap.size w w' := by
  have R0 := Aside0.mk hr0
  have HZ := Aside0.mk hz
  have HL := Aside0.mk hl
  clear hr0 hz hl
  have hmm := @run_makeMap Tryd.prog
  go_enter Tryd.func13, Tryd.ntmps13
  go_wp2
  have hs0 : ((w.alloc (.cells #[.slice A0 l0.length c0] 24)).alloc (.cells #[.map none] 40)).heap.size = w.heap.size + 1 + 1 := by simp
  have hs1 : (((w.alloc (.cells #[.slice A0 l0.length c0] 24)).alloc (.cells #[.map none] 40)).alloc (.map #[] 0)).heap.size = w.heap.size + 1 + 1 + 1 := by simp
  have HS0 := Aside0.mk hs0
  have HS1 := Aside0.mk hs1
  clear hs0 hs1
  go_loopw [11] (fun i wr => ∃ (k : Nat) (g : Int → Option Int) (f : Int → Option Value), k ≤ l0.length ∧ i = .int .i64 k ∧ Aside0 (MapIs encI wr Tryd.prog 3 (w.heap.size + 1 + 1) k f) ∧ Aside0 (∀ x, f x = (g x).map u8V) ∧ Aside0 (∀ x, byteG (l0.drop k) k (g x) x = byteOf l0 x) ∧ Aside0 (wr.heap[w.heap.size + 1]? = some (.cells #[.map none] 40 (0, 0))) ∧ Aside0 (wr.heap[w.heap.size + 1 + 1 + 1]? = some (.cells #[.map (some (w.heap.size + 1 + 1))] 40 (0, 0))) ∧ Aside0 (Below w.heap.size w wr)) (fun i _ => l0.length - (intOf i).toNat)
  case atStart =>
    refine ⟨0, fun _ => none, fun _ => none, Nat.zero_le _, rfl, ⟨?_⟩, ⟨fun _ => rfl⟩, ⟨fun _ => rfl⟩, ⟨blk_alloc (blk_alloc (two_new w _ _).2 _) _⟩, ⟨?_⟩, ⟨below_alloc (below_alloc (below_alloc (below_alloc (Below.refl _ _) _) _) _) _⟩⟩
    · have := MapIs.made (enc := encI) ((w.alloc (.cells #[.slice A0 l0.length c0] 24)).alloc (.cells #[.map none] 40)) Tryd.prog 3
      rw [HS0.out] at this
      exact this.alloc _
    · have := blk_new (((w.alloc (.cells #[.slice A0 l0.length c0] 24)).alloc (.cells #[.map none] 40)).alloc (.map #[] 0)) (.cells #[.map (some (w.heap.size + 1 + 1))] 40)
      rw [HS1.out] at this
      exact this
  case round =>
    obtain ⟨k, g, f, hk, rfl, hM, hF, hG, hT, hU, hB⟩ := hrel
    by_cases hlt : k < l0.length
    · obtain ⟨ad, e, x0⟩ := Kd.at_int (Kd.C_below R0.out hB.out) (k : Int) (by omega) (by omega)
      cases e
      obtain ⟨x, hx⟩ : ∃ x, x = rd l0 (k : Int) := ⟨_, rfl⟩
      rw [← hx, show ((k : Int)).toNat = k from rfl] at x0
      have hdrop : Aside0 (l0.drop k = x :: l0.drop (k + 1)) := ⟨by rw [hx]; exact drop_at l0 0 k hlt⟩
      have hwf : -9223372036854775808 ≤ x ∧ x ≤ 9223372036854775807 := by rw [hx]; exact ints_at HZ.out k
      have HK := Aside0.mk (key_int x hwf)
      have hu0 := blk_cell hU.out 0
      have hk256 : k < 256 := by have := HL.out; omega
      have HWU : Aside0 ((k : Int) % 256 = (k : Int)) := ⟨by omega⟩
      clear hx hwf
      by_cases hn : x = -1
      · subst hn
        go_wp2
        go_roundw
        case rel =>
          refine ⟨k + 1, g, f, by omega, by go_num, ⟨hM.out.mono (Nat.le_succ _)⟩, hF, ⟨fun y => ?_⟩, hT, hU, hB⟩
          have := hG.out y
          rw [hdrop.out, byteG, if_neg (fun h => h.2 rfl)] at this
          exact this
        case measure => simp [intOf]; omega
      · go_wp2_with (at_mapUpdate; refine wpList_mapis_upd _ rfl _ _ _ 38 rfl 3 5 law_int Tryd.underlying38 (w.heap.size + 1 + 1) k f rfl hM.out encI_inj (by unfold maxLen; have := HL.out; omega) _ _ x rfl rfl HK.out (encI_key x) ?_; intro w5 hM5 hg5)
        go_roundw
        case rel =>
          refine ⟨k + 1, fun y => if x = y ∧ ¬ x = -1 then some (k : Int) else g y, _, by omega, by go_num, ⟨hM5⟩, ⟨fun y => ?_⟩, ⟨fun y => ?_⟩, ⟨blk_grown hT.out hg5 (by intro e; injection e with e; omega)⟩, ⟨blk_grown hU.out hg5 (by intro e; injection e with e; omega)⟩, ⟨hB.out.grown hg5 hB.out.size (fun j hj => by cases hj; omega)⟩⟩
          · by_cases hy : y = x
            · subst hy
              rw [if_pos rfl]
              show some (Value.int .u8 (k : Int)) = Option.map u8V (if y = y ∧ ¬ y = -1 then some (k : Int) else g y)
              rw [if_pos ⟨rfl, hn⟩]; rfl
            · show (if y = x then _ else f y) = Option.map u8V (if x = y ∧ ¬ x = -1 then some (k : Int) else g y)
              rw [if_neg hy, if_neg (fun h => hy h.1.symm)]; exact hF.out y
          · have := hG.out y
            rw [hdrop.out, byteG] at this
            exact this
        case measure => simp [intOf]; omega
    · have hlen : l0.drop k = [] := List.drop_of_length_le (by omega)
      have hfin : Aside0 (∀ x, g x = byteOf l0 x) := ⟨fun x => by have := hG.out x; rw [hlen, byteG] at this; exact this⟩
      have hu0 := blk_cell hU.out 0
      have ht0 := blk_cell hT.out 0
      have ft0 := blk_frozen hT.out 0
      clear hlen
      go_wp2
      refine bodyPost_ret (resT rfl _ _ (w.heap.size + 1) 40 _ (0, 0) _ rfl (blk_set hT.out 0 _) Tryd.underlying40 rfl (by kernel_rfl)) rfl ?_
      refine ⟨w.heap.size + 1 + 1, f, rfl, by omega, (hM.out.mono (by have := HL.out; omega)).setCell (by show w.heap.size + 1 + 1 ≠ w.heap.size + 1; omega) _, fun x => by rw [hF.out, hfin.out], hB.out.setCell (by show w.heap.size ≤ w.heap.size + 1; omega) _⟩

/-! ### charset_known: function 18 -/
def charset_known.f (a0 : Int) : Option (Bool) := if a0 ≥ 1 then (some (decide (a0 ≤ 4))) else (some false)
set_option maxHeartbeats 8000000 in
set_option maxRecDepth 100000 in
theorem charset_known.calls (a0 : Int) (r : Bool) (w : World) (h : charset_known.f a0 = some r) :
    Calls Tryd.prog 18 #[.int .i64 a0] w fun e w' => e = .returned (.bool r) ∧ Drawn0 w w' := by
  have H : (if a0 ≥ 1 then (some (decide (a0 ≤ 4))) else (some false)) = some r := h
  clear h
  by_cases c2 : a0 ≥ 1
  · rw [if_pos c2] at H
    have c2b0 : decide (1 ≤ a0) = true := decide_eq_true c2
    clear c2
    obtain rfl := Option.some.inj H
    go_enter Tryd.func18, Tryd.ntmps18
    go_wp2
    go_ret
    exact ⟨by first | rfl | (simp; done) | (simp [*]; done), by repeat (first | exact Drawn0.refl _ | apply Drawn0.step)⟩
  · rw [if_neg c2] at H
    have c2b0 : decide (1 ≤ a0) = false := decide_eq_false c2
    clear c2
    obtain rfl := Option.some.inj H
    go_enter Tryd.func18, Tryd.ntmps18
    go_wp2
    go_ret
    exact ⟨by first | rfl | (simp; done) | (simp [*]; done), by repeat (first | exact Drawn0.refl _ | apply Drawn0.step)⟩

/-! ### charset_builder_put: function 19 -/
set_option maxHeartbeats 2000000 in
set_option maxRecDepth 100000 in
theorem wbyte_calls (bm hb : Nat) (bs : List Value) (c : Int) (w : World) (h : IsPut bm hb bs w) (hlen : bs.length + 1 ≤ 1000000) :
    Calls Tryd.prog 29 #[.pointer (some ⟨hb, 1, none⟩), .int .u8 c] w fun e w' => e = .returned .nilIface ∧ PutAt bm hb (.pointer (some ⟨hb, 1, none⟩)) (bs ++ [.int .u8 c]) w' ∧ Below hb w w' ∧ Lib.OthersKept 5 (some hb) w w' := by
  have hinfo : (Tryd.prog.info? 5).map (fun i => (i.zero, i.size, i.bytes)) = some (some (.int .u8 0), 1, 1) := by kernel_rfl
  obtain ⟨i0, hi, hz⟩ := Option.map_eq_some_iff.1 hinfo
  injection hz with hz0 hz12
  injection hz12 with hz1 hz2
  have HC := Aside0.mk (check_calls bm hb bs w h)
  have hlt : hb < w.heap.size := by
    rcases h with ⟨v, h1, _⟩ | ⟨v, h1, _⟩
    · exact blk_lt h1
    · exact blk_lt h1
  clear h hinfo
  go_enter Tryd.func29, Tryd.ntmps29
  go_wp2_with (go_at_call 49; refine HC.out.mono ?_)
  rintro e w1 ⟨rfl, h1, hb1, hk1⟩
  obtain ⟨v, hbk, hown, hne, _⟩ := h1
  have hlt1 : hb < w1.heap.size := blk_lt hbk
  have c0 := blk_cell hbk 1
  have c1 := blk_cell hbk 2
  go_wp2_with (at_builtin; refine wpList_append_own _ rfl _ _ 50 rfl hb 5 i0 (.int .u8 0) 1 1 Tryd.underlying50 hi hz0 hz1 hz2 rfl (by decide) _ _ _ rfl (hown.alloc _) ⟨w1.heap.size, 0, none⟩ 1 1 [.int .u8 c] rfl rfl ?c1 ?c2 ?c3 ?c4 ?c5 ?_)
  case c1 =>
    intro j u hj
    match j, hj with
    | 0, hj => simp at hj; subst hj; simp [Addr.add]
  case c2 => intro u hu; simp at hu; subst hu; rfl
  case c3 => unfold maxLen; omega
  case c4 => omega
  case c5 => simp; omega
  intro v' w2 hown' hgrow _
  have hb2 : w2.heap[hb]? = some (.cells #[.map (some bm), .pointer (some ⟨hb, 1, none⟩), v] 54 (0, 0)) := blk_grown (blk_alloc hbk _) hgrow (fun e => hne e.symm)
  have d1 := blk_cell hb2 2
  have f1 := blk_frozen hb2 2
  obtain ⟨g, cap, rfl⟩ : ∃ g cap, v' = .slice (some ⟨g, 0, none⟩) (bs.length + 1) cap := by
    rcases hown'.2 with ⟨_, h0⟩ | ⟨g, cap, cur, hv, _⟩
    · omega
    · exact ⟨g, cap, hv⟩
  have hgne : (Value.slice (some ⟨g, 0, none⟩) (bs.length + 1) cap).ownBlock ≠ some hb := by
    intro e
    rcases hown'.2 with ⟨_, h0⟩ | ⟨g', cap', cur, hv, _, hg, _⟩
    · omega
    · injection hv with hv1 hv2 hv3
      injection hv1 with hv1
      injection hv1 with hv1
      have e2 : g = hb := by simpa [Value.ownBlock] using e
      rw [← hv1, e2, hb2] at hg
      injection hg with hg
      injection hg with _ hg
      exact absurd hg (by decide)
  go_wp2
  go_ret
  refine ⟨rfl, ⟨_, blk_set hb2 2 _, ?_, hgne, fun e => by simp at e⟩, ?_, ((hk1.alloc _).grown hgrow (Lib.ownsRowF_kind (World.ownsRowF_of (hown.alloc _)))).setCell ⟨hb, 2, none⟩ rfl _⟩
  · have := World.ownsRow.kept hown' (grown_set w2 hb 2 (.slice (some ⟨g, 0, none⟩) (bs.length + 1) cap)) (.inr hgne)
    simpa using this
  · refine Below.setCell (p := ⟨hb, 2, none⟩) ?_ (Nat.le_refl _) _
    exact (hb1.alloc (Nat.le_of_lt hlt1) _).grown hgrow (by simp; omega) (fun k hk => (hown.lt k hk).1)
theorem zero_u8 (w : World) : (zeroValue 5).run Tryd.prog w = .ok (.int .u8 0) w := by kernel_rfl
def putB (g : Int → Option Int) (c : Int) : List Value := match g c with | some x => [u8V x] | none => []
set_option maxHeartbeats 2000000 in
set_option maxRecDepth 100000 in
theorem put_calls (bm hb n : Nat) (f : Int → Option Value) (g : Int → Option Int) (bs : List Value) (c : Int) (w : World) (h : IsPut bm hb bs w) (hM : MapIs encI w Tryd.prog 3 bm n f) (hf : ∀ x, f x = (g x).map u8V) (hlen : bs.length + 1 ≤ 1000000) (hc : -9223372036854775808 ≤ c ∧ c ≤ 9223372036854775807) :
    Calls Tryd.prog 19 #[.pointer (some ⟨hb, 0, none⟩), .int .i64 c] w fun e w' => e = .returned (.bool (g c).isSome) ∧ IsPut bm hb (bs ++ putB g c) w' ∧ Below hb w w' ∧ Lib.OthersKept 5 (some hb) w w' := by
  have hfc := hf c
  have h0 : w.cell? ⟨hb, 0, none⟩ = some (.map (some bm)) := by
    rcases h with ⟨v, h1, _⟩ | ⟨v, h1, _⟩
    · exact blk_cell h1 0
    · exact blk_cell h1 0
  have HM := Aside0.mk hM
  have HK := Aside0.mk (key_int c hc)
  have HP := Aside0.mk h
  clear h hM hf hc
  cases hg : g c with
  | none =>
    rw [hg] at hfc
    have hpb : Aside0 (bs ++ putB g c = bs) := ⟨by unfold putB; rw [hg]; exact List.append_nil _⟩
    clear hg
    go_enter Tryd.func19, Tryd.ntmps19
    go_wp2_with (at_lookup; refine wpList_mapis_ok _ rfl _ _ 38 rfl 3 5 law_int Tryd.underlying38 (zero_u8 _) bm n f rfl HM.out _ _ rfl HK.out ?_; rw [hfc]; simp only [Option.map_none, Option.getD_none, Option.isSome_none])
    go_ret
    exact ⟨rfl, by rw [hpb.out]; exact HP.out, Below.refl _ _, Lib.OthersKept.refl _ _ _⟩
  | some x =>
    rw [hg] at hfc
    have hpb : Aside0 (bs ++ putB g c = bs ++ [.int .u8 x]) := ⟨by unfold putB; rw [hg]; rfl⟩
    have HW := Aside0.mk (wbyte_calls bm hb bs x w HP.out hlen)
    clear hg
    go_enter Tryd.func19, Tryd.ntmps19
    go_wp2_with (first | (at_lookup; refine wpList_mapis_ok _ rfl _ _ 38 rfl 3 5 law_int Tryd.underlying38 (zero_u8 _) bm n f rfl HM.out _ _ rfl HK.out ?_; rw [hfc]; simp only [Option.map_some, Option.getD_some, Option.isSome_some, u8V]) | (go_at_call 29; refine HW.out.mono ?_; rintro e w1 ⟨rfl, hp, hb1, hk1⟩))
    go_ret
    exact ⟨rfl, by rw [hpb.out]; exact .inr hp, hb1, hk1⟩

/-! ### charset_Encode: function 9 -/
def gB (g : Int → Option Int) (c : Int) : List UInt8 := match g c with | some x => [UInt8.ofNat x.toNat] | none => []
def replB (g : Int → Option Int) : List UInt8 := if (g 63).isSome = true then gB g 63 else gB g 26
def escS (x : Int) : ByteArray := ⟨#[92, 117, 123]⟩ ++ hexB x ++ ⟨#[125]⟩
def escB (g : Int → Option Int) (x : Int) : List UInt8 := (escS x).data.toList.flatMap fun b => gB g (b.toNat : Int)
def encG (g : Int → Option Int) (p : Int) : List Int → Nat → List UInt8 → ByteArray × Int × Int
  | [], _, acc => (⟨acc.toArray⟩, 0, 0)
  | x :: r, i, acc => if (g x).isSome = true then encG g p r (i + 1) (acc ++ gB g x) else if p = 1 then (⟨#[]⟩, 10, (i : Int)) else if p = 2 then encG g p r (i + 1) (acc ++ replB g) else if p = 4 then encG g p r (i + 1) (acc ++ escB g x) else encG g p r (i + 1) acc
theorem byteG_lt : ∀ (l : List Int) (i : Nat) (acc : Option Int) (x y : Int), (∀ z, acc = some z → 0 ≤ z ∧ z < ((i + l.length : Nat) : Int)) → byteG l i acc x = some y → 0 ≤ y ∧ y < ((i + l.length : Nat) : Int) := by
  intro l
  induction l with
  | nil => intro i acc x y h e; exact h y e
  | cons a r ih =>
    intro i acc x y h e
    rw [byteG] at e
    have := ih (i + 1) _ x y (fun z hz => by
      by_cases hc : a = x ∧ ¬ a = -1
      · rw [if_pos hc] at hz; injection hz with hz; rw [← hz]; constructor <;> omega
      · rw [if_neg hc] at hz; have := h z hz; rw [List.length_cons] at this; constructor <;> omega) e
    rw [List.length_cons]
    constructor <;> omega
theorem putB_bytes (g : Int → Option Int) (c : Int) (h : ∀ y, g c = some y → 0 ≤ y ∧ y < 256) : putB g c = Lib.byteCells (gB g c) := by
  unfold putB gB
  cases hg : g c with
  | none => rfl
  | some y =>
    have := h y hg
    show [Value.int .u8 y] = [Value.int .u8 ((UInt8.ofNat y.toNat).toNat : Nat)]
    have e : ((UInt8.ofNat y.toNat).toNat : Int) = y := by
      rw [UInt8.toNat_ofNat']
      omega
    rw [e]
theorem gB_len (g : Int → Option Int) (c : Int) : (gB g c).length ≤ 1 := by
  unfold gB; split <;> simp
def charset_Encode.f (l0_0 : List Int) (l1 : List Int) (a2 : Int) : Option (ByteArray × Int × Int) :=
  if intsB l0_0 = true ∧ intsB l1 = true ∧ l1.length ≤ 1000 then (if checkB l0_0 = 0 then (if 1 ≤ a2 ∧ a2 ≤ 4 then some (encG (byteOf l0_0) a2 l1 0 []) else some (⟨#[]⟩, 8, 0)) else some (⟨#[]⟩, 11, 0)) else none
theorem known_f (p : Int) : charset_known.f p = some (decide (1 ≤ p ∧ p ≤ 4)) := by
  unfold charset_known.f
  by_cases h1 : 1 ≤ p <;> by_cases h2 : p ≤ 4 <;> simp [h1, h2]
theorem check_len {l : List Int} (h : checkB l = 0) : l.length = 256 := by
  unfold checkB at h
  by_cases hc : l.length = 256
  · exact hc
  · rw [if_neg hc] at h; cases h
theorem ret_f {w w3 : World} (hz : w3.heap[w.heap.size + 1]? = some (.cells #[.int .i64 0, .int .i64 0] 31 (0, 0))) (x y : Value) :
    ((w3.setCell ⟨w.heap.size + 1, 0, none⟩ x).setCell ⟨w.heap.size + 1, 1, none⟩ y).heap[w.heap.size + 1]? = some (.cells #[x, y] 31 (0, 0)) := blk_set (blk_set hz 0 x) 1 y
theorem below_f {w w3 : World} (hb : Below w.heap.size w w3) (x y : Value) : Below w.heap.size w ((w3.setCell ⟨w.heap.size + 1, 0, none⟩ x).setCell ⟨w.heap.size + 1, 1, none⟩ y) :=
  (hb.setCell (Nat.le_succ _) _).setCell (Nat.le_succ _) _
theorem hexL_len : ∀ (k : Nat) (c : Int) (acc : List UInt8), (hexL k c acc).length ≤ acc.length + k := by
  intro k
  induction k with
  | zero => intro c acc; exact Nat.le_refl _
  | succ k ih =>
    intro c acc
    rw [hexL]
    split
    · have := ih (c / 16) (dgU (c % 16) :: acc)
      rw [List.length_cons] at this; omega
    · omega
theorem hexB_size (x : Int) : (hexB x).size ≤ 7 := by
  unfold hexB
  split
  · have := hexL_len 7 x []
    show (hexL 7 x []).toArray.size ≤ 7
    rw [List.size_toArray]; simpa using this
  · exact Nat.zero_le _
theorem dgU_lt (x : Int) (h0 : 0 ≤ x) (h1 : x < 16) : (dgU x).toNat < 128 := by
  unfold dgU
  rw [UInt8.toNat_ofNat']
  split <;> omega
theorem hexL_asc : ∀ (k : Nat) (c : Int) (acc : List UInt8), (∀ b ∈ acc, b.toNat < 128) → ∀ b ∈ hexL k c acc, b.toNat < 128 := by
  intro k
  induction k with
  | zero => intro c acc h; exact h
  | succ k ih =>
    intro c acc h
    rw [hexL]
    split
    · refine ih _ _ fun b hb => ?_
      rcases List.mem_cons.1 hb with rfl | hb
      · exact dgU_lt _ (by omega) (by omega)
      · exact h b hb
    · exact h
theorem hexB_asc (x : Int) : ∀ b ∈ (hexB x).data.toList, b.toNat < 128 := by
  unfold hexB
  split
  · exact hexL_asc 7 x [] (fun b hb => by cases hb)
  · intro b hb; cases hb
theorem asc_at (h s : ByteArray) (hs : s = ⟨#[92, 117, 123]⟩ ++ h ++ ⟨#[125]⟩) (ha : ∀ b ∈ h.data.toList, b.toNat < 128) (j : Nat) (hj : j < s.size) : (s[j]'hj).toNat < 128 := by
  have hm : (s[j]'hj) ∈ s.data.toList := by
    have : (s[j]'hj) = s.data.toList[j]'(by rw [Array.length_toList]; exact hj) := rfl
    rw [this]; exact List.getElem_mem _
  generalize (s[j]'hj) = b at hm ⊢
  rw [hs, ByteArray.data_append, ByteArray.data_append, Array.toList_append, Array.toList_append, List.mem_append, List.mem_append] at hm
  rcases hm with (h1 | h1) | h1
  · simp at h1
    rcases h1 with rfl | rfl | rfl <;> decide
  · exact ha _ h1
  · simp at h1
    rw [h1]; decide
theorem w64s (n : Nat) (h : n < 128) : wrap64 (n : Int) = (n : Int) := by unfold wrap64; omega
theorem iter_grown (w : World) (kI : Nat) (s : ByteArray) (pos : Nat) : w.grownBy (w.iterAt kI s pos) (some kI) :=
  ⟨rfl, rfl, rfl, by rw [Lib.iterAt_size]; exact Nat.le_refl _, fun k _ hk => Lib.iterAt_other w kI k s pos (fun e => hk (by rw [e]))⟩
theorem isPut_grown {bm hb : Nat} {bs : List Value} {w w' : World} {kI : Nat} {s : ByteArray} {pos : Nat} (h : IsPut bm hb bs w) (hk : w.heap[kI]? = some (.stringIter s pos)) (hkb : kI ≠ hb) (hg : w.grownBy w' (some kI)) : IsPut bm hb bs w' := by
  have step : ∀ p, PutAt bm hb p bs w → PutAt bm hb p bs w' := by
    rintro p ⟨v, h1, h2, h3, h4⟩
    refine ⟨v, blk_grown h1 hg (fun e => hkb (Option.some.inj e).symm), World.ownsRow.kept h2 hg ?_, h3, h4⟩
    rcases h2.2 with ⟨rfl, _⟩ | ⟨g, cap, cur, rfl, _, hc, _⟩
    · exact .inl rfl
    · right
      intro e
      have e2 : g = kI := by simpa [Value.ownBlock] using e
      rw [e2, hk] at hc
      cases hc
  rcases h with h | h
  · exact .inl (step _ h)
  · exact .inr (step _ h)
def EncAt (w : World) (bm hb : Nat) (f : Int → Option Value) (acc : List UInt8) (wr : World) : Prop :=
  IsPut bm hb (Lib.byteCells acc) wr ∧ MapIs encI wr Tryd.prog 3 bm 256 f ∧ wr.heap[w.heap.size + 1]? = some (.cells #[.int .i64 0, .int .i64 0] 31 (0, 0)) ∧ Below w.heap.size w wr
theorem enc_call {w wr : World} {bm hb : Nat} {f : Int → Option Value} {acc : List UInt8} (g : Int → Option Int) (c : Int) (hE : EncAt w bm hb f acc wr) (hf : ∀ x, f x = (g x).map u8V) (hgv : ∀ c y, g c = some y → 0 ≤ y ∧ y < 256) (h1 : w.heap.size + 1 < hb) (h2 : bm < hb) (hlen : acc.length + 1 ≤ 1000000) (hc : -9223372036854775808 ≤ c ∧ c ≤ 9223372036854775807) :
    Calls Tryd.prog 19 #[.pointer (some ⟨hb, 0, none⟩), .int .i64 c] wr fun e w' => e = .returned (.bool (g c).isSome) ∧ EncAt w bm hb f (acc ++ gB g c) w' ∧ Lib.OthersKept 5 (some hb) wr w' := by
  obtain ⟨e1, e2, e3, e4⟩ := hE
  refine (put_calls bm hb 256 f g _ c wr e1 e2 hf (by rw [Lib.byteCells_length]; exact hlen) hc).mono ?_
  rintro e w' ⟨rfl, hp, hb5, hk⟩
  refine ⟨rfl, ⟨?_, e2.same (hb5.block bm h2), (hb5.block _ h1).trans e3, e4.trans (hb5.mono (by omega))⟩, hk⟩
  rw [putB_bytes g c (hgv c)] at hp
  have : Lib.byteCells (acc ++ gB g c) = Lib.byteCells acc ++ Lib.byteCells (gB g c) := by unfold Lib.byteCells; rw [List.map_append]
  rw [this]; exact hp
theorem enc_iter {w wr : World} {bm hb : Nat} {f : Int → Option Value} {acc : List UInt8} (hE : EncAt w bm hb f acc wr) {kI : Nat} {s : ByteArray} {pos : Nat} (hk : wr.heap[kI]? = some (.stringIter s pos)) (h1 : w.heap.size + 1 < kI) (h2 : bm < kI) (h3 : kI ≠ hb) (pos' : Nat) : EncAt w bm hb f acc (wr.iterAt kI s pos') := by
  obtain ⟨e1, e2, e3, e4⟩ := hE
  have hg := iter_grown wr kI s pos'
  exact ⟨isPut_grown e1 hk h3 hg, e2.same (Lib.iterAt_other wr kI bm s pos' (by omega)), blk_grown e3 hg (by intro e; injection e with e; omega), e4.grown hg e4.size (fun j hj => by cases hj; omega)⟩
theorem enc_alloc {w wr : World} {bm hb : Nat} {f : Int → Option Value} {acc : List UInt8} (hE : EncAt w bm hb f acc wr) (o : Obj) : EncAt w bm hb f acc (wr.alloc o) := by
  obtain ⟨e1, e2, e3, e4⟩ := hE
  refine ⟨?_, e2.alloc o, blk_alloc e3 o, below_alloc e4 o⟩
  rcases e1 with ⟨v, h1, h2, h3, h4⟩ | ⟨v, h1, h2, h3, h4⟩
  · exact .inl ⟨v, blk_alloc h1 o, h2.alloc o, h3, h4⟩
  · exact .inr ⟨v, blk_alloc h1 o, h2.alloc o, h3, h4⟩
theorem enc_below {w wr w' : World} {bm hb : Nat} {f : Int → Option Value} {acc : List UInt8} (hE : EncAt w bm hb f acc wr) (hb' : Below wr.heap.size wr w') : EncAt w bm hb f acc w' := by
  obtain ⟨e1, e2, e3, e4⟩ := hE
  have hg := grown_of_below hb' none
  refine ⟨?_, e2.below hb', blk_below e3 hb', e4.trans (hb'.mono e4.size)⟩
  rcases e1 with ⟨v, h1, h2, h3, h4⟩ | ⟨v, h1, h2, h3, h4⟩
  · exact .inl ⟨v, blk_below h1 hb', World.ownsRow.kept h2 hg (by cases v.ownBlock <;> simp), h3, h4⟩
  · exact .inr ⟨v, blk_below h1 hb', World.ownsRow.kept h2 hg (by cases v.ownBlock <;> simp), h3, h4⟩
set_option maxHeartbeats 6400000 in
set_option maxRecDepth 100000 in
theorem charset_Encode.calls (A0_0 : Option Addr) (c0_0 : Nat) (l0_0 : List Int) (A1 : Option Addr) (c1 : Nat) (l1 : List Int) (a2 : Int) (r1 : ByteArray) (r2 : Int) (r3 : Int) (w : World) (hr0_0 : Kd.C (Kd.int .i64) w A0_0 l0_0.length l0_0) (hc0_0 : l0_0.length ≤ c0_0) (hr1 : Kd.C (Kd.int .i64) w A1 l1.length l1) (hc1 : l1.length ≤ c1) (h : charset_Encode.f l0_0 l1 a2 = some (r1, r2, r3)) :
    Calls Tryd.prog 9 #[.agg #[.slice A0_0 l0_0.length c0_0], .slice A1 l1.length c1, .int .i64 a2] w fun e w' => e = .returned (.tuple #[.string r1, .agg #[.int .i64 r2, .int .i64 r3]]) ∧ Below w.heap.size w w' := by
  unfold charset_Encode.f at h
  by_cases hp : intsB l0_0 = true ∧ intsB l1 = true ∧ l1.length ≤ 1000
  case neg => rw [if_neg hp] at h; cases h
  rw [if_pos hp] at h
  obtain ⟨hp0, hp1, hp2⟩ := hp
  have R0 := Aside0.mk hr0_0
  have R1 := Aside0.mk hr1
  have HP0 := Aside0.mk hp0
  have HP1 := Aside0.mk hp1
  have hck : charset_Check.f l0_0 = some (checkB l0_0) := by unfold charset_Check.f; rw [if_pos hp0]
  have HCK := Aside0.mk hck
  have HKN := Aside0.mk (known_f a2)
  have HH := Aside0.mk h
  clear hr0_0 hr1 hp0 hp1 hck h
  generalize hqq : checkB l0_0 = q at HCK HH
  have HQ := Aside0.mk hqq
  clear hqq
  go_enter Tryd.func9, Tryd.ntmps9
  by_cases hq : q = 0
  case neg =>
    have hh := HH.out
    rw [if_neg hq] at hh
    injection hh with hh
    injection hh with g1 g2
    injection g2 with g2 g3
    subst g1; subst g2; subst g3
    go_wp2_with (go_at_call 12; refine (charset_Check.calls _ _ _ _ _ (Kd.C_below R0.out (below_alloc (below_alloc (Below.refl _ _) _) _)) hc0_0 HCK.out).mono ?_; rintro e w1 ⟨rfl, hb⟩; have hft : w1.heap[w.heap.size + 1]? = some (.cells #[.int .i64 0, .int .i64 0] 31 (0, 0)) := blk_below (two_new w _ _).2 hb; have hB1 : Below w.heap.size w w1 := (below_alloc (below_alloc (Below.refl _ _) _) _).trans (hb.mono (by simp; omega)); have z1 := blk_cell hft 0; have z2 := blk_cell hft 1; have fz1 := blk_frozen hft 0; have fz2 := blk_frozen hft 1)
    refine bodyPost_ret (results_tc rfl _ _ (w.heap.size + 1) 31 _ (0, 0) _ rfl (ret_f hft _ _) Tryd.underlying31 rfl (by kernel_rfl)) rfl ?_
    exact ⟨rfl, below_f hB1 _ _⟩
  subst hq
  have hl256 := Aside0.mk (check_len HQ.out)
  have hh := HH.out
  rw [if_pos rfl] at hh
  by_cases hpol : 1 ≤ a2 ∧ a2 ≤ 4
  case neg =>
    rw [if_neg hpol] at hh
    injection hh with hh
    injection hh with g1 g2
    injection g2 with g2 g3
    subst g1; subst g2; subst g3
    rw [decide_eq_false hpol] at HKN
    clear hpol
    go_wp2_with (first | (go_at_call 12; refine (charset_Check.calls _ _ _ _ _ (Kd.C_below R0.out (below_alloc (below_alloc (Below.refl _ _) _) _)) hc0_0 HCK.out).mono ?_; rintro e w1 ⟨rfl, hb⟩; have hft : w1.heap[w.heap.size + 1]? = some (.cells #[.int .i64 0, .int .i64 0] 31 (0, 0)) := blk_below (two_new w _ _).2 hb; have hB1 : Below w.heap.size w w1 := (below_alloc (below_alloc (Below.refl _ _) _) _).trans (hb.mono (by simp; omega))) | (go_at_call 18; refine (charset_known.calls _ _ _ HKN.out).mono ?_; rintro e w2 ⟨rfl, hd⟩; have hb2 := hd.below; clear hd; have hft2 := blk_below hft hb2; have z1 := blk_cell hft2 0; have z2 := blk_cell hft2 1; have fz1 := blk_frozen hft2 0; have fz2 := blk_frozen hft2 1))
    refine bodyPost_ret (results_tc rfl _ _ (w.heap.size + 1) 31 _ (0, 0) _ rfl (ret_f hft2 _ _) Tryd.underlying31 rfl (by kernel_rfl)) rfl ?_
    exact ⟨rfl, below_f (hB1.trans (hb2.mono hB1.size)) _ _⟩
  rw [if_pos hpol] at hh
  have HG := Aside0.mk (Option.some.inj hh)
  have HPOL := Aside0.mk hpol
  rw [decide_eq_true hpol] at HKN
  clear hpol hh
  obtain ⟨g, hg⟩ : ∃ g, g = byteOf l0_0 := ⟨_, rfl⟩
  rw [← hg] at HG
  have hgv : ∀ c y, g c = some y → 0 ≤ y ∧ y < 256 := by
    intro c y e
    rw [hg] at e
    have := byteG_lt l0_0 0 none c y (fun z hz => by cases hz) e
    rw [hl256.out] at this
    exact ⟨this.1, by have := this.2; omega⟩
  have HGV := Aside0.mk hgv
  have HGG := Aside0.mk hg
  clear hgv hg
  go_wp2_with (first | (go_at_call 12; refine (charset_Check.calls _ _ _ _ _ (Kd.C_below R0.out (below_alloc (below_alloc (Below.refl _ _) _) _)) hc0_0 HCK.out).mono ?_; rintro e w1 ⟨rfl, hb⟩; have hft : w1.heap[w.heap.size + 1]? = some (.cells #[.int .i64 0, .int .i64 0] 31 (0, 0)) := blk_below (two_new w _ _).2 hb; have hB1 : Below w.heap.size w w1 := (below_alloc (below_alloc (Below.refl _ _) _) _).trans (hb.mono (by simp; omega)); have hbx : w1.cell? ⟨w.heap.size, 0, none⟩ = some (.slice A0_0 l0_0.length c0_0) := blk_cell (blk_below (two_new w _ _).1 hb) 0) | (go_at_call 18; refine (charset_known.calls _ _ _ HKN.out).mono ?_; rintro e w2 ⟨rfl, hd⟩; have hb2 := hd.below; clear hd; have hft2 := blk_below hft hb2; have hB2 := hB1.trans (hb2.mono hB1.size); have hbx2 := pw_cell_below hb2 hbx) | (go_at_call 13; refine (open_calls _ _ _ _ (Kd.C_below R0.out hB2) hc0_0 HP0.out (by rw [hl256.out]; omega)).mono ?_; rintro e w3 ⟨bm, f, rfl, hbm, hM, hf, hb3⟩))
  have h1 : w.heap.size + 1 < w3.heap.size := by have a := hb2.size; have b := hb3.size; have c := hb.size; simp at c; omega
  have h2 : bm < w3.heap.size := hM.lt
  have hE0 : EncAt w bm w3.heap.size f [] (w3.alloc (.cells #[.map (some bm), .pointer none, .slice none 0 0] 54)) :=
    ⟨.inl ⟨.slice none 0 0, blk_new _ _, World.ownsRow_nil _ _ _ _, by simp [Value.ownBlock], fun _ => rfl⟩, hM.alloc _, blk_alloc (blk_below hft2 hb3) _, below_alloc (hB2.trans (hb3.mono hB2.size)) _⟩
  have HE0 := Aside0.mk hE0
  have HF := Aside0.mk (show ∀ x, f x = (g x).map u8V from fun x => by rw [hf x, HGG.out])
  generalize hbe : w3.heap.size = hb' at h1 h2 HE0 ⊢
  clear hE0 hf hM hb hft hB1 hb2 hft2 hB2 hbx hbx2 hb3
  go_loopw [29] (fun i wr => ∃ (k : Nat) (acc : List UInt8), k ≤ l1.length ∧ i = .int .i64 k ∧ acc.length ≤ 20 * k ∧ Aside0 (encG g a2 (l1.drop k) k acc = (r1, r2, r3)) ∧ Aside0 (EncAt w bm hb' f acc wr)) (fun i _ => l1.length - (intOf i).toNat)
  case atStart => exact ⟨0, [], Nat.zero_le _, rfl, Nat.zero_le _, HG, HE0⟩
  case round =>
    obtain ⟨k, acc, hk, rfl, hal, hG, hE⟩ := hrel
    by_cases hlt : k < l1.length
    · obtain ⟨ad, e, x0⟩ := Kd.at_int (Kd.C_below R1.out hE.out.2.2.2) (k : Int) (by omega) (by omega)
      cases e
      obtain ⟨x, hx⟩ : ∃ x, x = rd l1 (k : Int) := ⟨_, rfl⟩
      rw [← hx, show ((k : Int)).toNat = k from rfl] at x0
      have hwf : -9223372036854775808 ≤ x ∧ x ≤ 9223372036854775807 := by rw [hx]; exact ints_at HP1.out k
      have hg := hG.out
      have hdr : l1.drop k = x :: l1.drop (k + 1) := by rw [hx]; exact drop_at l1 0 k hlt
      rw [hdr, encG] at hg
      have HC := Aside0.mk (enc_call g x hE.out HF.out HGV.out h1 h2 (by omega) hwf)
      have hgl := gB_len g x
      clear hx hdr hwf
      cases hs : (g x).isSome with
      | true =>
        rw [if_pos hs] at hg
        have HG2 := Aside0.mk hg
        rw [hs] at HC
        clear hg hs
        go_wp2_with (go_at_call 19; refine HC.out.mono ?_; rintro e w5 ⟨rfl, hE5, _⟩)
        go_roundw
        case rel => exact ⟨k + 1, acc ++ gB g x, by omega, by go_num, by rw [List.length_append]; omega, HG2, ⟨hE5⟩⟩
        case measure => simp [intOf]; omega
      | false =>
        rw [if_neg (by rw [hs]; decide)] at hg
        have hgn : gB g x = [] := by unfold gB; cases hgx : g x with
          | none => rfl
          | some y => rw [hgx] at hs; cases hs
        rw [hs, hgn, List.append_nil] at HC
        clear hs hgn hgl
        by_cases p1 : a2 = 1
        · rw [if_pos p1] at hg
          injection hg with g1 g2
          injection g2 with g2 g3
          have G3 := Aside0.mk g3
          subst g1; subst g2; subst p1
          clear g3
          go_wp2_with (go_at_call 19; refine HC.out.mono ?_; rintro e w5 ⟨rfl, hE5, _⟩; have hft5 := hE5.2.2.1; have z1 := blk_cell hft5 0; have z2 := blk_cell hft5 1; have fz1 := blk_frozen hft5 0; have fz2 := blk_frozen hft5 1)
          refine bodyPost_ret (results_tc rfl _ _ (w.heap.size + 1) 31 _ (0, 0) _ rfl (ret_f hft5 _ _) Tryd.underlying31 rfl (by kernel_rfl)) rfl ?_
          exact ⟨by rw [← G3.out]; rfl, below_f hE5.2.2.2 _ _⟩
        · rw [if_neg p1] at hg
          by_cases p2 : a2 = 2
          · rw [if_pos p2] at hg
            have HG2 := Aside0.mk hg
            subst p2
            clear hg
            cases h63 : (g 63).isSome with
            | true =>
              have hrp : replB g = gB g 63 := by unfold replB; rw [if_pos h63]
              have HRP := Aside0.mk hrp
              have hl63 := gB_len g 63
              clear hrp
              go_wp2_with fail
              refine HC.out.mono ?_
              rintro e w5 ⟨rfl, hE5, _⟩
              go_wp2_with fail
              refine (enc_call g 63 hE5 HF.out HGV.out h1 h2 (by omega) (by omega)).mono ?_
              rintro e w6 ⟨he, hE6, _⟩
              rw [h63] at he
              subst he
              go_wp2
              go_roundw
              case rel => exact ⟨k + 1, acc ++ gB g 63, by omega, by go_num, by rw [List.length_append]; omega, ⟨by rw [← HG2.out, HRP.out]⟩, ⟨hE6⟩⟩
              case measure => simp [intOf]; omega
            | false =>
              have hrp : replB g = gB g 26 := by unfold replB; rw [if_neg (by rw [h63]; decide)]
              have HRP := Aside0.mk hrp
              have hn63 : gB g 63 = [] := by unfold gB; cases hgx : g 63 with
                | none => rfl
                | some y => rw [hgx] at h63; cases h63
              have hl26 := gB_len g 26
              clear hrp
              go_wp2_with fail
              refine HC.out.mono ?_
              rintro e w5 ⟨rfl, hE5, _⟩
              go_wp2_with fail
              refine (enc_call g 63 hE5 HF.out HGV.out h1 h2 (by omega) (by omega)).mono ?_
              rintro e w6 ⟨he, hE6, _⟩
              rw [h63] at he
              subst he
              rw [hn63, List.append_nil] at hE6
              go_wp2_with fail
              refine (enc_call g 26 hE6 HF.out HGV.out h1 h2 (by omega) (by omega)).mono ?_
              rintro e w7 ⟨rfl, hE7, _⟩
              go_wp2
              go_roundw
              case rel => exact ⟨k + 1, acc ++ gB g 26, by omega, by go_num, by rw [List.length_append]; omega, ⟨by rw [← HG2.out, HRP.out]⟩, ⟨hE7⟩⟩
              case measure => simp [intOf]; omega
          · rw [if_neg p2] at hg
            by_cases p4 : a2 = 4
            · rw [if_pos p4] at hg
              have HG2 := Aside0.mk hg
              subst p4
              have hxs := hexB_size x
              have hxa := hexB_asc x
              have hhx : codepoint_Hex.f x = some (hexB x) := rfl
              have HES : Aside0 (escB g x = ((⟨#[92, 117, 123]⟩ ++ hexB x ++ ⟨#[125]⟩ : ByteArray).data.toList.flatMap fun b => gB g (b.toNat : Int))) := ⟨rfl⟩
              generalize hexB x = hxv at hxs hxa hhx HES
              have HXA := Aside0.mk hxa
              clear hxa
              have HX := Aside0.mk hhx
              clear hg hhx
              have s1 : (⟨#[92, 117, 123]⟩ : ByteArray).size + hxv.size ≤ 9223372036854775807 := by show 3 + hxv.size ≤ _; omega
              have s2 : ((⟨#[92, 117, 123]⟩ : ByteArray) ++ hxv).size + (⟨#[125]⟩ : ByteArray).size ≤ 9223372036854775807 := by rw [ByteArray.size_append]; show 3 + hxv.size + 1 ≤ _; omega
              go_wp2_with fail
              refine HC.out.mono ?_
              rintro e w5 ⟨rfl, hE5, _⟩
              go_wp2_with fail
              refine (codepoint_Hex.calls _ _ _ HX.out).mono ?_
              rintro e w6 ⟨rfl, hb6⟩
              have hE6 := enc_below hE5 hb6
              go_wp2
              obtain ⟨s, hs⟩ : ∃ s : ByteArray, s = ⟨#[92, 117, 123]⟩ ++ hxv ++ ⟨#[125]⟩ := ⟨_, rfl⟩
              rw [← hs]
              have hss : s.size ≤ 11 := by rw [hs, ByteArray.size_append, ByteArray.size_append]; show 3 + hxv.size + 1 ≤ 11; omega
              have HASC : Aside0 (∀ (j : Nat) (hj : j < s.size), (s[j]'hj).toNat < 128) := ⟨asc_at hxv s hs HXA.out⟩
              rw [← hs] at HES
              have hkn := hb6.size
              have hk1 : hb' < w6.heap.size := Nat.lt_of_lt_of_le (by rcases hE5.1 with ⟨v, q, _⟩ | ⟨v, q, _⟩ <;> exact blk_lt q) hkn
              clear hs s1 s2 hkn
              go_loopg [] s.size (fun gg wr => ∃ (pos : Nat) (acc' : List UInt8), pos ≤ s.size ∧ s.size - pos ≤ gg ∧ acc'.length ≤ acc.length + pos ∧ Aside0 (wr.heap[w6.heap.size]? = some (.stringIter s pos)) ∧ Aside0 (acc' ++ ((s.data.toList.drop pos).flatMap fun b => gB g (b.toNat : Int)) = acc ++ escB g x) ∧ Aside0 (EncAt w bm hb' f acc' wr))
              case atStart => exact ⟨0, acc, Nat.zero_le _, Nat.sub_le _ _, Nat.le_refl _, ⟨blk_new w6 (.stringIter s 0)⟩, ⟨by rw [HES.out]; rfl⟩, ⟨enc_alloc hE6 (.stringIter s 0)⟩⟩
              case round =>
                obtain ⟨pos, acc', hp, hgg, hal', hI, hA, hE'⟩ := hrel
                by_cases hlt2 : pos < s.size
                · have hnx := Lib.run_next_ascii_at (P := Tryd.prog) wr w6.heap.size s pos 0 hI.out hlt2 (HASC.out pos hlt2)
                  have hc128 := HASC.out pos hlt2
                  have hdr2 : Aside0 (s.data.toList.drop pos = (s[pos]'hlt2) :: s.data.toList.drop (pos + 1)) := ⟨by
                    rw [List.drop_eq_getElem_cons (by rw [Array.length_toList]; exact hlt2)]; rfl⟩
                  obtain ⟨cb, hcb⟩ : ∃ cb, cb = s[pos]'hlt2 := ⟨_, rfl⟩
                  rw [← hcb] at hnx hc128 hdr2
                  have hEi := enc_iter hE'.out hI.out (by omega) (by omega) (by omega) (pos + 1)
                  have hIi := Lib.iterAt_heap wr w6.heap.size s pos (pos + 1) hI.out
                  have HCC := Aside0.mk (enc_call g (cb.toNat : Int) hEi HF.out HGV.out h1 h2 (by omega) (by omega))
                  have hgl2 := gB_len g (cb.toNat : Int)
                  clear hcb
                  go_wp2_with fail
                  refine HCC.out.mono ?_
                  rintro e w7 ⟨rfl, hE7, hk7⟩
                  have hI7 := Lib.OthersKept.iter hk7 hIi (by omega)
                  go_wp2
                  go_roundg (s.size - (pos + 1))
                  case measure => omega
                  case rel =>
                    refine ⟨pos + 1, acc' ++ gB g (cb.toNat : Int), by omega, Nat.le_refl _, by rw [List.length_append]; omega, ⟨hI7⟩, ⟨?_⟩, ⟨hE7⟩⟩
                    rw [← hA.out, hdr2.out, List.flatMap_cons, List.append_assoc]
                · have hnx := Lib.run_next_end_at (P := Tryd.prog) wr w6.heap.size s pos 0 hI.out hlt2
                  have hacc : acc' = acc ++ escB g x := by
                    have := hA.out
                    rw [List.drop_of_length_le (by rw [Array.length_toList]; exact Nat.le_of_not_lt hlt2), List.flatMap_nil, List.append_nil] at this
                    exact this
                  have HACC := Aside0.mk hacc
                  have hle : acc'.length ≤ acc.length + 11 := by omega
                  clear hacc
                  go_wp2
                  go_roundw
                  case rel => exact ⟨k + 1, acc', by omega, by go_num, by omega, ⟨by rw [HACC.out]; exact HG2.out⟩, hE'⟩
                  case measure => simp [intOf]; omega
            · rw [if_neg p4] at hg
              have HG2 := Aside0.mk hg
              clear hg
              go_wp2_with (go_at_call 19; refine HC.out.mono ?_; rintro e w5 ⟨rfl, hE5, _⟩)
              go_roundw
              case rel => exact ⟨k + 1, acc, by omega, by go_num, by omega, HG2, ⟨hE5⟩⟩
              case measure => simp [intOf]; omega
    · have hdr : l1.drop k = [] := List.drop_of_length_le (by omega)
      have hg := hG.out
      rw [hdr, encG] at hg
      injection hg with g1 g2
      injection g2 with g2 g3
      subst g1; subst g2; subst g3
      have HS := Aside0.mk (string_calls bm hb' acc _ hE.out.1)
      clear hdr
      go_wp2_with (go_at_call 21; refine HS.out.mono ?_; rintro e w6 ⟨rfl, hb6⟩; have hft6 := (hb6.block _ h1).trans hE.out.2.2.1; have z1 := blk_cell hft6 0; have z2 := blk_cell hft6 1; have fz1 := blk_frozen hft6 0; have fz2 := blk_frozen hft6 1)
      refine bodyPost_ret (results_tc rfl _ _ (w.heap.size + 1) 31 _ (0, 0) _ rfl (ret_f hft6 _ _) Tryd.underlying31 rfl (by kernel_rfl)) rfl ?_
      exact ⟨rfl, below_f (hE.out.2.2.2.trans (hb6.mono (by omega))) _ _⟩

end Go.Proofs.YthnkkohhohkbkaaDoor.MP

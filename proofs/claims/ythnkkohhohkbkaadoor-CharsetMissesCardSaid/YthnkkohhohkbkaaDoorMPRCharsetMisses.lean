/- The row of CharsetMisses: the law is true at every input, and every argument reads as it did. No condition but what the program's text lays in two tables of Go's library (the card ties it). -/
import Derived.Test.YthnkkohhohkbkaaDoorRows
import Derived.Test.YthnkkohhohkbkaaDoorMPx10
import Derived.Test.YthnkkohhohkbkaaDoorMPO
import Derived.Test.YthnkkohhohkbkaaDoorCards
import Derived.Test.YthnkkohhohkbkaaDoorTie
import Derived.Test.YthnkkohhohkbkaaDoorMPx10
import Derived.ProofKit
import Derived.LaidMore
import Derived.Lay
import Derived.SevenTiedAt
namespace Go.Proofs.YthnkkohhohkbkaaDoor.charsetMisses
open Go.ChangeShapes Go.WideShapes Go.ChangeAt Go.RowKit Go.Proofs.YthnkkohhohkbkaaDoor.MP Go.Proofs.YthnkkohhohkbkaaDoorW.PrintWords
set_option linter.unusedVariables false
theorem own : ownKnob Tryd.prog.godebug = none := by kernel_rfl
theorem laidOut : laidOutB Tryd.prog = true := by kernel_rfl
abbrev laid : List (String × DataW Unit) := [("unicode/utf8.acceptRanges", Rows.laid_unicode_utf8_acceptRanges), ("unicode/utf8.first", Rows.laid_unicode_utf8_first)]
set_option maxRecDepth 100000 in
theorem lifted (os : Os) (started : os.Started) (H : Type) (enc : TypeId × Value → H) :
    ReturnsInHanded {} Tryd.checked os 3 .any (fun w args => (Rows.charsetMissesSpec.pre enc Tryd.prog Tryd.f3 Rows.charsetMissesRow.domain false w args ∧ laidMetH Tryd.prog laid w) ∧ sizedMet enc Tryd.prog Tryd.f3 (OpenSpec.ofChange Rows.charsetMissesSpec) false w args) (Rows.charsetMissesSpec.post enc Tryd.prog Tryd.f3 false true false false) := by
  refine returnsInHanded_of_change_and (C := Tryd.checked) (X := (fun w _ => laidMetH Tryd.prog laid w)) (fun _ _ _ hh h => h.of_heap hh) own started (by kernel_rfl) Tryd.func3
    (ChangeSpec.witness_shaped (enc := enc) (C := Tryd.checked) (os := os) (X := (fun w _ => laidMetH Tryd.prog laid w)) false (World.laidAll Tryd.prog os laid) #[.agg #[.slice none 0 0], .slice none 0 0] 8 (World.laidAll_os _ _ _)
      (World.shaped_of_ZipB (by kernel_rfl) (by kernel_rfl)) (by kernel_rfl) (by kernel_rfl) (by kernel_rfl)
      (by rw [MakeChecks.laidMetH_plain _ _ _ (by kernel_rfl)]; exact laidMet_laidAll _ (by kernel_rfl) (by kernel_rfl))) ?_
  intro W base args ds gs before hval0 hW hcnd hsz0 hL _
  have hval : ∀ (j : Nat) t v, Tryd.f3.params[j]? = some t → args[j]? = some v → Value.okWide Tryd.prog W .any base t v := hval0
  have hW' := hW
  obtain ⟨p, q, hA0, hV, rfl, hfz, hnd⟩ := hW
  have hA : DataW.TrodAll enc Tryd.prog W 0 (fun _ => true) true Tryd.f3.params.toList args.toList ds p := hA0
  rw [Tryd.params3] at hA hval
  obtain ⟨v0, vs0, d0, ds0, p0, q0, hargs, rfl, rfl, h0, r0⟩ := trodAll_cons hA
  obtain ⟨v1, vs1, d1, ds1, p1, q1, rfl, rfl, rfl, h1, r1⟩ := trodAll_cons r0
  obtain ⟨rfl, rfl, rfl⟩ := trodAll_nil r1
  obtain rfl : args = #[v0, v1] := by cases args; simp_all
  obtain ⟨rfl, rfl⟩ := trodVars_none hV
  obtain ⟨cs0, rfl, _⟩ := okWide_struct Tryd.underlying24 (hval 0 24 v0 rfl rfl)
  have k0 := h0
  have lt0 : ∀ x ∈ p0, x.block < W.heap.size := by obtain ⟨m, hm⟩ := k0; exact DataW.trod_lt m _ _ _ hm
  obtain ⟨fu0, hf0⟩ := h0
  obtain ⟨l0_0, K0, g0⟩ := (opens_one Tryd.underlying24 (by kernel_rfl) (by kernel_rfl) (opens_slice Tryd.underlying22 (by kernel_rfl) (opens_int Tryd.underlying3 (by kernel_rfl)))).2 hf0
  generalize hcs0 : (Value.cells (.agg cs0)).toList = cc0 at K0
  obtain ⟨A0_0, c0_0, rfl, hc0_0, hr0_0⟩ := K0
  obtain rfl : cs0 = #[.slice A0_0 l0_0.length c0_0] := by cases cs0; simpa [Value.cells] using hcs0
  clear hcs0
  obtain ⟨A1, n1, c1, rfl⟩ := okWide_slice Tryd.underlying22 (hval 1 22 v1 rfl rfl)
  have k1 := h1
  have lt1 : ∀ x ∈ p1, x.block < W.heap.size := by obtain ⟨m, hm⟩ := k1; exact DataW.trod_lt m _ _ _ hm
  obtain ⟨fu1, hf1⟩ := h1
  obtain ⟨l1, K1, g1⟩ := (opens_slice Tryd.underlying22 (by kernel_rfl) (opens_int Tryd.underlying3 (by kernel_rfl))).2 hf1
  obtain ⟨b1, m1, E1, hc1, hr1⟩ := K1
  simp only [Value.cells, List.cons.injEq, and_true] at E1
  cases E1
  clear hA0 hval0 hsz0
  refine (unicodetextlaw06_CharsetMisses.calls 50000 A0_0 c0_0 l0_0 A1 c1 l1 true W hr0_0 hc0_0 hr1 hc1 (charsetMisses_true l0_0 l1 (List.all_eq_true.2 fun x hx => by have := Go.bounds_i64 (g0 x hx); simp only [Bool.and_eq_true, decide_eq_true_eq]; exact this) (List.all_eq_true.2 fun x hx => by have := Go.bounds_i64 (g1 x hx); simp only [Bool.and_eq_true, decide_eq_true_eq]; exact this))).mono fun e W' ⟨he, bel⟩ => ?_
  subst he
  exact ⟨_, rfl, _, _, _, [], _, [], hW', trodAll_mk1 (shut_bool Tryd.underlying4 _), (trodAll_cons_mk (Below.trod laidOut (by kernel_rfl) (of_decide_eq_true (by kernel_rfl)) k0 bel lt0) (trodAll_cons_mk (Below.trod laidOut (by kernel_rfl) (of_decide_eq_true (by kernel_rfl)) k1 bel lt1) trodAll_mk0)), rfl, bel.frame _, fun h => by cases h⟩
theorem over : Rows.charsetMissesRow.holds Tryd.pinned (OpenSpec.ofChange Rows.charsetMissesSpec) :=
  OpenClaim.holds_of_wide 3 Tryd.f3 rfl rfl rfl rfl rfl rfl rfl ⟨rfl, rfl, rfl, rfl, rfl⟩ rfl rfl rfl rfl rfl (by kernel_rfl) Tryd.func3 (by kernel_rfl)
    (of_decide_eq_true (by kernel_rfl)) (by unfold Func.isWrapper; first | (rw [if_pos (by decide +kernel)]; kernel_rfl) | (rw [if_neg (by decide +kernel)]; exact ⟨rfl, rfl⟩))
    (fun os started H enc _ => lifted os started H enc)
theorem proved : Rows.CharsetMissesSaid := over
#print axioms proved
end Go.Proofs.YthnkkohhohkbkaaDoor.charsetMisses
namespace Go.Proofs.YthnkkohhohkbkaaDoor
/-- The row, under a short name, for the claim. -/
theorem charsetMisses_holds : Rows.CharsetMissesSaid := charsetMisses.proved
/-- The tied card. -/
theorem charsetMisses_card : Rows.CharsetMissesCardSaid :=
  Claim7.holds_tied_plain_at .later [] [.data, .pinned] true (true, "0c4256e101a94302b7f9ebe4987eff94ea9de6483b92d6849174d26c2f8cd640") false charsetMisses_holds (fun _ h => by cases h) (by kernel_rfl) (fun _ h => by cases h) charsetMisses_row_tie rfl ⟨rfl, rfl⟩ (by kernel_rfl) rfl
    (fun f fn hf hfn => by
      obtain rfl : f = 3 := Option.some.inj ((show Tryd.prog.funcNamed "unicodetext/unicodetextlaw06.CharsetMisses" = some 3 by kernel_rfl).symm.trans hf) |>.symm
      obtain rfl : fn = Tryd.f3 := (Option.some.inj (Tryd.func3.symm.trans hfn)).symm
      exact ⟨by kernel_rfl, fun j t ht => by
        rw [Tryd.params3] at ht
        have hm : t ∈ [24, 22] := by simpa using Array.mem_of_getElem? ht
        have hall : ([24, 22].all fun u => !Tryd.prog.wantsStandIn u) = true := by kernel_rfl
        exact (show Tryd.prog.wantsStandIn t = false by simpa using List.all_eq_true.1 hall t hm)⟩)
    (by kernel_rfl)
#print axioms charsetMisses_card
end Go.Proofs.YthnkkohhohkbkaaDoor

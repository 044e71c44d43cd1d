/- The row of CharsetTexts: the law is true at every input, and every argument reads as it did. No condition but what the program's text lays in two tables of Go's library (the card ties it). -/
import Derived.Test.YtlgoagkgmndchaaDoorRows
import Derived.Test.YtlgoagkgmndchaaDoorPAx24
import Derived.Test.YtlgoagkgmndchaaDoorPAO
import Derived.Test.YtlgoagkgmndchaaDoorCards
import Derived.Test.YtlgoagkgmndchaaDoorTie
import Derived.Test.YtlgoagkgmndchaaDoorPAx25
import Derived.ProofKit
import Derived.LaidMore
import Derived.Lay
import Derived.SevenTiedAt
namespace Go.Proofs.YtlgoagkgmndchaaDoor.charsetTexts
open Go.ChangeShapes Go.WideShapes Go.ChangeAt Go.RowKit Go.Proofs.YtlgoagkgmndchaaDoor.PA Go.Proofs.YtlgoagkgmndchaaDoorW.PrintWords
set_option linter.unusedVariables false
theorem own : ownKnob Tryd.prog.godebug = none := by kernel_rfl
theorem laidOut : laidOutB Tryd.prog = true := by kernel_rfl
abbrev laid : List (String × DataW Unit) := [("unicode/utf8.acceptRanges", Rows.laid_unicode_utf8_acceptRanges), ("unicode/utf8.first", Rows.laid_unicode_utf8_first)]
set_option maxRecDepth 100000 in
theorem lifted (os : Os) (started : os.Started) (H : Type) (enc : TypeId × Value → H) :
    ReturnsInHanded {} Tryd.checked os 6 .any (fun w args => (Rows.charsetTextsSpec.pre enc Tryd.prog Tryd.f6 Rows.charsetTextsRow.domain false w args ∧ laidMetH Tryd.prog laid w) ∧ sizedMet enc Tryd.prog Tryd.f6 (OpenSpec.ofChange Rows.charsetTextsSpec) false w args) (Rows.charsetTextsSpec.post enc Tryd.prog Tryd.f6 false true false false) := by
  refine returnsInHanded_of_change_and (C := Tryd.checked) (X := (fun w _ => laidMetH Tryd.prog laid w)) (fun _ _ _ hh h => h.of_heap hh) own started (by kernel_rfl) Tryd.func6
    (ChangeSpec.witness_shaped (enc := enc) (C := Tryd.checked) (os := os) (X := (fun w _ => laidMetH Tryd.prog laid w)) false (World.laidAll Tryd.prog os laid) #[.agg #[.slice none 0 0]] 8 (World.laidAll_os _ _ _)
      (World.shaped_of_ZipB (by kernel_rfl) (by kernel_rfl)) (by kernel_rfl) (by kernel_rfl) (by kernel_rfl)
      (by rw [MakeChecks.laidMetH_plain _ _ _ (by kernel_rfl)]; exact laidMet_laidAll _ (by kernel_rfl) (by kernel_rfl))) ?_
  intro W base args ds gs before hval0 hW hcnd hsz0 hL _
  have hval : ∀ (j : Nat) t v, Tryd.f6.params[j]? = some t → args[j]? = some v → Value.okWide Tryd.prog W .any base t v := hval0
  have hW' := hW
  obtain ⟨p, q, hA0, hV, rfl, hfz, hnd⟩ := hW
  have hA : DataW.TrodAll enc Tryd.prog W 0 (fun _ => true) true Tryd.f6.params.toList args.toList ds p := hA0
  rw [Tryd.params6] at hA hval
  obtain ⟨v0, vs0, d0, ds0, p0, q0, hargs, rfl, rfl, h0, r0⟩ := trodAll_cons hA
  obtain ⟨rfl, rfl, rfl⟩ := trodAll_nil r0
  obtain rfl : args = #[v0] := by cases args; simp_all
  obtain ⟨rfl, rfl⟩ := trodVars_none hV
  obtain ⟨cs0, rfl, _⟩ := okWide_struct Tryd.underlying24 (hval 0 24 v0 rfl rfl)
  have k0 := h0
  have lt0 : ∀ x ∈ p0, x.block < W.heap.size := by obtain ⟨m, hm⟩ := k0; exact DataW.trod_lt m _ _ _ hm
  obtain ⟨fu0, hf0⟩ := h0
  obtain ⟨l0_0, K0, g0⟩ := (opens_one Tryd.underlying24 (by kernel_rfl) (by kernel_rfl) (opens_slice Tryd.underlying22 (by kernel_rfl) (opens_int Tryd.underlying3 (by kernel_rfl)))).2 hf0
  generalize hcs0 : (Value.cells (.agg cs0)).toList = cc0 at K0
  obtain ⟨A0_0, c0_0, rfl, hc0_0, hr0_0⟩ := K0
  obtain rfl : cs0 = #[.slice A0_0 l0_0.length c0_0] := by cases cs0; simpa [Value.cells] using hcs0
  clear hcs0
  clear hA0 hval0 hsz0
  refine (unicodetextlaw06_CharsetTexts.calls 20000 A0_0 c0_0 l0_0 true W hr0_0 hc0_0 (charsetTexts_true l0_0 (List.all_eq_true.2 fun x hx => by have := Go.bounds_i64 (g0 x hx); simp only [Bool.and_eq_true, decide_eq_true_eq]; exact this))).mono fun e W' ⟨he, bel⟩ => ?_
  subst he
  exact ⟨_, rfl, _, _, _, [], _, [], hW', trodAll_mk1 (shut_bool Tryd.underlying4 _), (trodAll_cons_mk (Below.trod laidOut (by kernel_rfl) (of_decide_eq_true (by kernel_rfl)) k0 bel lt0) trodAll_mk0), rfl, bel.frame _, fun h => by cases h⟩
theorem over : Rows.charsetTextsRow.holds Tryd.pinned (OpenSpec.ofChange Rows.charsetTextsSpec) :=
  OpenClaim.holds_of_wide 6 Tryd.f6 rfl rfl rfl rfl rfl rfl rfl ⟨rfl, rfl, rfl, rfl, rfl⟩ rfl rfl rfl rfl rfl (by kernel_rfl) Tryd.func6 (by kernel_rfl)
    (of_decide_eq_true (by kernel_rfl)) (by unfold Func.isWrapper; first | (rw [if_pos (by decide +kernel)]; kernel_rfl) | (rw [if_neg (by decide +kernel)]; exact ⟨rfl, rfl⟩))
    (fun os started H enc _ => lifted os started H enc)
theorem proved : Rows.CharsetTextsSaid := over
#print axioms proved
end Go.Proofs.YtlgoagkgmndchaaDoor.charsetTexts
namespace Go.Proofs.YtlgoagkgmndchaaDoor
/-- The row, under a short name, for the claim. -/
theorem charsetTexts_holds : Rows.CharsetTextsSaid := charsetTexts.proved
/-- The tied card. -/
theorem charsetTexts_card : Rows.CharsetTextsCardSaid :=
  Claim7.holds_tied_plain_at .later [] [.data, .pinned] true (true, "ebb9d0df5495fdc23f498177aff1c57f312eea7e308c2733529726a1539ffbad") false charsetTexts_holds (fun _ h => by cases h) (by kernel_rfl) (fun _ h => by cases h) charsetTexts_row_tie rfl ⟨rfl, rfl⟩ (by kernel_rfl) rfl
    (fun f fn hf hfn => by
      obtain rfl : f = 6 := Option.some.inj ((show Tryd.prog.funcNamed "unicodetext/unicodetextlaw06.CharsetTexts" = some 6 by kernel_rfl).symm.trans hf) |>.symm
      obtain rfl : fn = Tryd.f6 := (Option.some.inj (Tryd.func6.symm.trans hfn)).symm
      exact ⟨by kernel_rfl, fun j t ht => by
        rw [Tryd.params6] at ht
        have hm : t ∈ [24] := by simpa using Array.mem_of_getElem? ht
        have hall : ([24].all fun u => !Tryd.prog.wantsStandIn u) = true := by kernel_rfl
        exact (show Tryd.prog.wantsStandIn t = false by simpa using List.all_eq_true.1 hall t hm)⟩)
    (by kernel_rfl)
#print axioms charsetTexts_card
end Go.Proofs.YtlgoagkgmndchaaDoor

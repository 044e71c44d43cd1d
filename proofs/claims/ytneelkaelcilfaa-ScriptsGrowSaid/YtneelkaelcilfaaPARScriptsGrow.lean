/- The row of ScriptsGrow: the law is true at every input, and every argument reads as it did. No condition. -/
import Derived.Test.YtneelkaelcilfaaRows
import Derived.Test.YtneelkaelcilfaaPAx28
import Derived.Test.YtneelkaelcilfaaPAO
import Derived.Test.YtneelkaelcilfaaPAx28
namespace Go.Proofs.Ytneelkaelcilfaa.scriptsGrow
open Go.ChangeShapes Go.WideShapes Go.ChangeAt Go.RowKit Go.Proofs.Ytneelkaelcilfaa.PA Go.Proofs.YtneelkaelcilfaaW.PrintWords
set_option linter.unusedVariables false
theorem own : ownKnob Try.prog.godebug = none := by kernel_rfl
theorem laidOut : laidOutB Try.prog = true := by kernel_rfl
set_option maxRecDepth 100000 in
theorem lifted (os : Os) (started : os.Started) (H : Type) (enc : TypeId × Value → H) :
    ReturnsInHanded {} Try.checked os 9 .any (Rows.scriptsGrowSpec.pre6 enc Try.prog Try.f9 Rows.scriptsGrowRow.domain false) (Rows.scriptsGrowSpec.post enc Try.prog Try.f9 false true false false) := by
  refine returnsInHanded_of_change_sized (C := Try.checked) own started (by kernel_rfl) Try.func9
    (ChangeSpec.witness6 (enc := enc) (C := Try.checked) false ⟨#[], #[.agg #[.slice none 0 0, .slice none 0 0], .slice none 0 0, .slice none 0 0], []⟩ 8 (by kernel_rfl) (by kernel_rfl) (by kernel_rfl) (by kernel_rfl)) ?_
  intro W base args ds gs before hval0 hW hcnd hsz0 _
  have hval : ∀ (j : Nat) t v, Try.f9.params[j]? = some t → args[j]? = some v → Value.okWide Try.prog W .any base t v := hval0
  have hW' := hW
  obtain ⟨p, q, hA0, hV, rfl, hfz, hnd⟩ := hW
  have hA : DataW.TrodAll enc Try.prog W 0 (fun _ => true) true Try.f9.params.toList args.toList ds p := hA0
  rw [Try.params9] at hA hval
  obtain ⟨v0, vs0, d0, ds0, p0, q0, hargs, rfl, rfl, h0, r0⟩ := trodAll_cons hA
  obtain ⟨v1, vs1, d1, ds1, p1, q1, rfl, rfl, rfl, h1, r1⟩ := trodAll_cons r0
  obtain ⟨v2, vs2, d2, ds2, p2, q2, rfl, rfl, rfl, h2, r2⟩ := trodAll_cons r1
  obtain ⟨rfl, rfl, rfl⟩ := trodAll_nil r2
  obtain rfl : args = #[v0, v1, v2] := by cases args; simp_all
  obtain ⟨rfl, rfl⟩ := trodVars_none hV
  obtain ⟨cs0, rfl, _⟩ := okWide_struct Try.underlying25 (hval 0 25 v0 rfl rfl)
  have k0 := h0
  have lt0 : ∀ x ∈ p0, x.block < W.heap.size := by obtain ⟨m, hm⟩ := k0; exact DataW.trod_lt m _ _ _ hm
  obtain ⟨fu0, hf0⟩ := h0
  obtain ⟨⟨l0_0, l0_1⟩, K0, g0⟩ := (opens_take Try.underlying25 (by kernel_rfl) (by kernel_rfl) (by kernel_rfl) (opens_slice Try.underlying22 (by kernel_rfl) (opens_string Try.underlying9 (by kernel_rfl))) (opens_slice Try.underlying23 (by kernel_rfl) (((opens_three Try.underlying45 (by kernel_rfl) (by kernel_rfl) (by kernel_rfl) (by kernel_rfl) (opens_int Try.underlying3 (by kernel_rfl)) (opens_int Try.underlying3 (by kernel_rfl)) (opens_int Try.underlying3 (by kernel_rfl)))).iso (goodc := fun x => ((Lit.int .i64 (x.f0)).wf = true) ∧ ((Lit.int .i64 (x.f1)).wf = true) ∧ ((Lit.int .i64 (x.f2)).wf = true)) (fun x : S45 => (x.f0, x.f1, x.f2)) (fun x => ⟨x.1, x.2.1, x.2.2⟩) (fun _ => rfl) (fun _ h => h)))).2 hf0
  generalize hcs0 : (Value.cells (.agg cs0)).toList = cc0 at K0
  obtain ⟨x0_0, y0_0, rfl, e0_0, o0_0⟩ := K0
  obtain ⟨A0_0, c0_0, rfl, hc0_0, hr0_0⟩ := e0_0
  obtain ⟨A0_1, c0_1, rfl, hc0_1, hr0_1⟩ := o0_0
  obtain rfl : cs0 = #[.slice A0_0 l0_0.length c0_0, .slice A0_1 l0_1.length c0_1] := by cases cs0; simpa [Value.cells] using hcs0
  clear hcs0
  obtain ⟨A1, n1, c1, rfl⟩ := okWide_slice Try.underlying26 (hval 1 26 v1 rfl rfl)
  have k1 := h1
  have lt1 : ∀ x ∈ p1, x.block < W.heap.size := by obtain ⟨m, hm⟩ := k1; exact DataW.trod_lt m _ _ _ hm
  obtain ⟨fu1, hf1⟩ := h1
  obtain ⟨l1, K1, g1⟩ := (opens_slice Try.underlying26 (by kernel_rfl) (opens_int Try.underlying3 (by kernel_rfl))).2 hf1
  obtain ⟨b1, m1, E1, hc1, hr1⟩ := K1
  simp only [Value.cells, List.cons.injEq, and_true] at E1
  cases E1
  obtain ⟨A2, n2, c2, rfl⟩ := okWide_slice Try.underlying26 (hval 2 26 v2 rfl rfl)
  have k2 := h2
  have lt2 : ∀ x ∈ p2, x.block < W.heap.size := by obtain ⟨m, hm⟩ := k2; exact DataW.trod_lt m _ _ _ hm
  obtain ⟨fu2, hf2⟩ := h2
  obtain ⟨l2, K2, g2⟩ := (opens_slice Try.underlying26 (by kernel_rfl) (opens_int Try.underlying3 (by kernel_rfl))).2 hf2
  obtain ⟨b2, m2, E2, hc2, hr2⟩ := K2
  simp only [Value.cells, List.cons.injEq, and_true] at E2
  cases E2
  clear hA0 hval0 hsz0
  refine (unicodetextlaw40_ScriptsGrow.calls 20000 A0_0 c0_0 l0_0 A0_1 c0_1 l0_1 A1 c1 l1 A2 c2 l2 true W hr0_0 hc0_0 hr0_1 hc0_1 hr1 hc1 hr2 hc2 (scriptsGrow_true l0_0 l0_1 l1 l2 (List.all_eq_true.2 fun x hx => decide_eq_true (g0.1 x hx)) (List.all_eq_true.2 fun x hx => by have := Go.bounds_i64 (g1 x hx); simp only [Bool.and_eq_true, decide_eq_true_eq]; exact this) (List.all_eq_true.2 fun x hx => by have := Go.bounds_i64 (g2 x hx); simp only [Bool.and_eq_true, decide_eq_true_eq]; exact this))).mono fun e W' ⟨he, bel⟩ => ?_
  subst he
  exact ⟨_, rfl, _, _, _, [], _, [], hW', trodAll_mk1 (shut_bool Try.underlying4 _), (trodAll_cons_mk (Below.trod laidOut (by kernel_rfl) (of_decide_eq_true (by kernel_rfl)) k0 bel lt0) (trodAll_cons_mk (Below.trod laidOut (by kernel_rfl) (of_decide_eq_true (by kernel_rfl)) k1 bel lt1) (trodAll_cons_mk (Below.trod laidOut (by kernel_rfl) (of_decide_eq_true (by kernel_rfl)) k2 bel lt2) trodAll_mk0))), rfl, bel.frame _, fun h => by cases h⟩
theorem over : Rows.scriptsGrowRow.holds Try.pinned (OpenSpec.ofChange Rows.scriptsGrowSpec) :=
  OpenClaim.holds_of_wide 9 Try.f9 rfl rfl rfl rfl rfl rfl rfl ⟨rfl, rfl, rfl, rfl, rfl⟩ rfl rfl rfl rfl rfl (by kernel_rfl) Try.func9 (by kernel_rfl)
    (of_decide_eq_true (by kernel_rfl)) (by unfold Func.isWrapper; first | (rw [if_pos (by decide +kernel)]; kernel_rfl) | (rw [if_neg (by decide +kernel)]; exact ⟨rfl, rfl⟩))
    (fun os started H enc _ => lifted os started H enc)
theorem proved : Rows.ScriptsGrowSaid := over
#print axioms proved
end Go.Proofs.Ytneelkaelcilfaa.scriptsGrow
namespace Go.Proofs.Ytneelkaelcilfaa
/-- The row, under a short name, for the claim. -/
theorem scriptsGrow_holds : Rows.ScriptsGrowSaid := scriptsGrow.proved
end Go.Proofs.Ytneelkaelcilfaa

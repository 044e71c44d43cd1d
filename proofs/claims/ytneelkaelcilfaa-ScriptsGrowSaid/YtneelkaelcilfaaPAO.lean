/- What an argument of a row is: the cells that a value of the type lays open, for numbers, texts, slices of such and structs of such. No condition. -/
import Derived.Test.YtneelkaelcilfaaPAx0
import Derived.Test.YtneelkaelcilfaaRows
import Derived.Deep.Slices
import Derived.WideShapes
import Derived.WalkKit
import Derived.ProofKit
import Derived.OpenShut
import Derived.ShutString
import Derived.ChangeOld
import Derived.Below
import Derived.SizedLaws
import Derived.Test.YtneelkaelcilfaaWSized
namespace Go.Proofs.Ytneelkaelcilfaa.PA
open Go.RowKit Go.WideShapes Go.ChangeShapes Go.Proofs.YtneelkaelcilfaaW.PrintWords Go.Proofs.YtneelkaelcilfaaW.PrintLast Go.Proofs.YtneelkaelcilfaaW.PrintMore
set_option linter.unusedVariables false
def Opens (P : Program) (w : World) (t : TypeId) {α : Type} (d : Kd α) (good : α → Prop) : Prop :=
  P.cellsOf t = d.sz ∧ ∀ {H : Type} {enc : TypeId × Value → H} {base : Nat} {spare : Nat → Bool} {held : Bool} {fuel : Nat} {cs : List Value} {x : DataW H × List MemPlace}, DataW.trod enc P w base spare held fuel t cs = some x → ∃ a, d.K w a cs ∧ good a
section
variable {P : Program} {w : World} {t e : TypeId} {α β : Type} {d : Kd α} {d2 : Kd β} {good : α → Prop} {good2 : β → Prop}
theorem opens_int {k : IntKind} (ht : P.underlying t = some (.int k)) (hc : P.cellsOf t = 1) : Opens P w t (Kd.int k) (fun n => (Lit.int k n).wf = true) :=
  ⟨hc, fun h => by
    obtain ⟨n, rfl, _, hw⟩ := DataW.trod_int ht h
    exact ⟨n, rfl, hw⟩⟩
theorem opens_string (ht : P.underlying t = some .string) (hc : P.cellsOf t = 1) : Opens P w t Kd.string (fun s => s.size ≤ 9223372036854775807) :=
  ⟨hc, fun h => by
    obtain ⟨s, rfl, _, hs⟩ := DataW.trod_string ht h
    exact ⟨s, rfl, hs⟩⟩
theorem opens_slice (ht : P.underlying t = some (.slice e)) (hc : P.cellsOf t = 1) (h : Opens P w e d good) : Opens P w t (Kd.slice e d) (fun xs => ∀ x ∈ xs, good x) :=
  ⟨hc, fun {H enc base spare held fuel cs x} hx => by
    rcases Go.Deep.open_slice ht hx with ⟨rfl, _⟩ | ⟨a, len, cap, m, n, D, Pl, rfl, hb, hl, hm, hmm, _, hel⟩
    · exact ⟨[], ⟨none, 0, rfl, Nat.le_refl _, rfl, Nat.zero_le _, fun hn => absurd hn (Nat.lt_irrefl _)⟩, fun x hx => by cases hx⟩
    · have hlm : len ≤ m := by rw [hmm]; split <;> omega
      have each : ∀ i, i < len → ∃ y : α, (∃ c, c.length = d.sz ∧ d.K w y c ∧ ∀ j u, c[j]? = some u → w.cell? (a.add (i * d.sz + j)) = some u) ∧ good y := by
        intro i hi
        obtain ⟨cs', h1, h2⟩ := hel i (by omega)
        obtain ⟨y, hy, hg⟩ := h.2 h2
        rw [h.1] at h1
        obtain ⟨_, hlen, hcell⟩ := World.cells?_some h1
        refine ⟨y, ⟨cs', hlen, hy, fun j u hu => ?_⟩, hg⟩
        have hj : j < d.sz := by
          rw [← hlen]
          exact (List.getElem?_eq_some_iff.1 hu).1
        have h3 := hcell j hj
        rw [hu, Go.Deep.add_add] at h3
        exact h3
      obtain ⟨ys, hys⟩ : ∃ ys : List α, ys.length = len ∧ ∀ i y, ys[i]? = some y → (∃ c, c.length = d.sz ∧ d.K w y c ∧ ∀ j u, c[j]? = some u → w.cell? (a.add (i * d.sz + j)) = some u) ∧ good y := by
        have : ∀ n, n ≤ len → ∃ ys : List α, ys.length = n ∧ ∀ i y, ys[i]? = some y → (∃ c, c.length = d.sz ∧ d.K w y c ∧ ∀ j u, c[j]? = some u → w.cell? (a.add (i * d.sz + j)) = some u) ∧ good y := by
          intro n
          induction n with
          | zero => intro _; exact ⟨[], rfl, fun i y hy => by simp at hy⟩
          | succ n ih =>
            intro hn
            obtain ⟨ys, hl1, hl2⟩ := ih (by omega)
            obtain ⟨y, hy⟩ := each n (by omega)
            refine ⟨ys ++ [y], by rw [List.length_append, hl1]; rfl, fun i z hz => ?_⟩
            by_cases hi : i < ys.length
            · rw [List.getElem?_append_left hi] at hz; exact hl2 i z hz
            · rw [List.getElem?_append_right (by omega)] at hz
              have hi0 : i - ys.length = 0 := by
                have := (List.getElem?_eq_some_iff.1 hz).1
                rw [List.length_singleton] at this; omega
              rw [hi0] at hz
              have : i = n := by omega
              subst this
              cases hz
              exact hy
        exact this len (Nat.le_refl _)
      refine ⟨ys, ⟨some a, cap, by rw [hys.1], by rw [hys.1]; exact hl, by rw [hys.1], by rw [hys.1]; unfold maxLen at hm; omega, fun _ => ⟨a, rfl, fun j p hp => ?_⟩⟩, fun y hy => ?_⟩
      · obtain ⟨⟨c, h1, h2, h3⟩, _⟩ := hys.2 j p hp
        exact ⟨c, h1, h2, h3⟩
      · obtain ⟨i, hi⟩ := List.mem_iff_getElem?.1 hy
        exact (hys.2 i y hi).2⟩
theorem opens_one {f0 : Field} (ht : P.underlying t = some (.struct #[f0])) (hc : P.cellsOf t = P.cellsOf f0.type) (o0 : f0.offset = 0) (h0 : Opens P w f0.type d good) : Opens P w t d good :=
  ⟨by rw [hc, h0.1], fun {H enc base spare held fuel cs x} hx => by
    obtain ⟨xs, n, _, _, hl, hxl, hf⟩ := DataW.trod_struct ht hx
    have g0 := hf 0 f0 rfl
    have hx0 : xs[0]? = some (xs[0]'(by rw [hxl]; simp)) := List.getElem?_eq_getElem _
    rw [hx0] at g0
    obtain ⟨a, ha, hg⟩ := h0.2 g0
    rw [o0, List.drop_zero, List.take_of_length_le (by rw [hl, hc]; omega)] at ha
    exact ⟨a, ha, hg⟩⟩
/-- the fields' cells, one after the other -/
theorem opens_take {f0 f1 : Field} (ht : P.underlying t = some (.struct #[f0, f1])) (hc : P.cellsOf t = P.cellsOf f0.type + P.cellsOf f1.type) (o0 : f0.offset = 0) (o1 : f1.offset = P.cellsOf f0.type) (h0 : Opens P w f0.type d good) (h1 : Opens P w f1.type d2 good2) :
    Opens P w t (Kd.pair d d2) (fun x => good x.1 ∧ good2 x.2) :=
  ⟨by rw [hc, h0.1, h1.1]; rfl, fun {H enc base spare held fuel cs x} hx => by
    obtain ⟨xs, n, _, _, hl, hxl, hf⟩ := DataW.trod_struct ht hx
    have g0 := hf 0 f0 rfl
    have g1 := hf 1 f1 rfl
    have hx0 : xs[0]? = some (xs[0]'(by rw [hxl]; simp)) := List.getElem?_eq_getElem _
    have hx1 : xs[1]? = some (xs[1]'(by rw [hxl]; simp)) := List.getElem?_eq_getElem _
    rw [hx0] at g0
    rw [hx1] at g1
    obtain ⟨a, ha, hg⟩ := h0.2 g0
    obtain ⟨b, hb, hg2⟩ := h1.2 g1
    rw [o0, List.drop_zero] at ha
    rw [o1, List.take_of_length_le (by rw [List.length_drop, hl, hc]; omega)] at hb
    exact ⟨(a, b), ⟨_, _, (List.take_append_drop _ _).symm, ha, hb⟩, hg, hg2⟩⟩
theorem opens_three {γ : Type} {d3 : Kd γ} {good3 : γ → Prop} {f0 f1 f2 : Field} (ht : P.underlying t = some (.struct #[f0, f1, f2])) (hc : P.cellsOf t = P.cellsOf f0.type + (P.cellsOf f1.type + P.cellsOf f2.type)) (o0 : f0.offset = 0) (o1 : f1.offset = P.cellsOf f0.type) (o2 : f2.offset = P.cellsOf f0.type + P.cellsOf f1.type) (h0 : Opens P w f0.type d good) (h1 : Opens P w f1.type d2 good2) (h2 : Opens P w f2.type d3 good3) :
    Opens P w t (Kd.pair d (Kd.pair d2 d3)) (fun x => good x.1 ∧ good2 x.2.1 ∧ good3 x.2.2) :=
  ⟨by rw [hc, h0.1, h1.1, h2.1]; rfl, fun {H enc base spare held fuel cs x} hx => by
    obtain ⟨xs, n, _, _, hl, hxl, hf⟩ := DataW.trod_struct ht hx
    have g0 := hf 0 f0 rfl
    have g1 := hf 1 f1 rfl
    have g2 := hf 2 f2 rfl
    have hx0 : xs[0]? = some (xs[0]'(by rw [hxl]; simp)) := List.getElem?_eq_getElem _
    have hx1 : xs[1]? = some (xs[1]'(by rw [hxl]; simp)) := List.getElem?_eq_getElem _
    have hx2 : xs[2]? = some (xs[2]'(by rw [hxl]; simp)) := List.getElem?_eq_getElem _
    rw [hx0] at g0
    rw [hx1] at g1
    rw [hx2] at g2
    obtain ⟨a, ha, hg⟩ := h0.2 g0
    obtain ⟨b, hb, hg2⟩ := h1.2 g1
    obtain ⟨c, hc', hg3⟩ := h2.2 g2
    rw [o0, List.drop_zero] at ha
    rw [o1] at hb
    rw [o2, List.take_of_length_le (by rw [List.length_drop, hl, hc]; omega)] at hc'
    refine ⟨(a, b, c), ⟨_, _, ?_, ha, _, _, rfl, hb, hc'⟩, hg, hg2, hg3⟩
    rw [← List.drop_drop, List.take_append_drop, List.take_append_drop]⟩
theorem Opens.iso {γ : Type} {goodc : γ → Prop} (h : Opens P w t d good) (f : γ → α) (g : α → γ) (hfg : ∀ a, f (g a) = a) (hg : ∀ a, good a → goodc (g a)) : Opens P w t (Kd.iso d f) goodc :=
  ⟨h.1, fun hx => by
    obtain ⟨a, ha, hga⟩ := h.2 hx
    exact ⟨g a, (by show d.K w (f (g a)) _; rw [hfg]; exact ha), hg a hga⟩⟩
end
end Go.Proofs.Ytneelkaelcilfaa.PA

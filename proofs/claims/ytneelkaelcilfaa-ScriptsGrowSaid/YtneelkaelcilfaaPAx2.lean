-- Laid by hprint.py (this session's program, over the kit's print) for the seat Ytneelkaelcilfaa. Lean checks it.
import Derived.Test.YtneelkaelcilfaaPAx0
namespace Go.Proofs.Ytneelkaelcilfaa.PA
open Go.RowKit Go.Proofs.YtneelkaelcilfaaW.PrintWords Go.Proofs.YtneelkaelcilfaaW.PrintLast Go.Proofs.YtneelkaelcilfaaW.PrintMore
attribute [local go_sem] max2_int min2_int max_two min_two max_three min_three max_four min_four   -- for this text's walks alone
set_option linter.unusedVariables false
set_option linter.unusedSimpArgs false

/-! ### prelude base -/
theorem bs_eq (a b : ByteArray) : a.toList = b.toList ↔ a = b := by
  rw [ByteArray.toList_eq, ByteArray.toList_eq]
  constructor
  · intro h
    cases a with | mk x => cases b with | mk y => exact congrArg ByteArray.mk (Array.toList_inj.1 h)
  · rintro rfl; rfl
theorem wrap_up {i : Int} {n : Nat} (h0 : 0 ≤ i) (h : i < (n : Int)) (hn : n ≤ 9223372036854775807) : wrap64 (i + 1) = i + 1 := by
  unfold wrap64; omega
theorem wrap_in (n : Int) (h0 : -9223372036854775808 ≤ n) (h1 : n ≤ 9223372036854775807) : wrap64 n = n := by unfold wrap64; omega
theorem drop_at {α : Type} (l : List α) (d : α) (i : Nat) (h : i < l.length) : l.drop i = l.getD i d :: l.drop (i + 1) := by
  rw [List.drop_eq_getElem_cons h, List.getD_eq_getElem?_getD, List.getElem?_eq_getElem h]; rfl
theorem rd_nat (l : List Int) (i : Nat) : rd l (i : Int) = l.getD i 0 := rfl
theorem rdOf_nat {α : Type} (d : α) (l : List α) (i : Nat) : rdOf d l (i : Int) = l.getD i d := rfl
theorem bt_nat (s : ByteArray) (i : Nat) : bt s (i : Int) = (bytesOf s).getD i 0 := (rd_bytesOf s (i : Int)).symm
theorem succ_cast (i : Nat) : ((i : Int) + 1) = ((i + 1 : Nat) : Int) := by omega
theorem ev_end {β : Type} {F : Nat → Option β} {r : β} (hs : ∀ k, F (k + 1) = some r) : Ev F r :=
  ⟨1, fun k hk => by obtain ⟨k, rfl⟩ : ∃ m, k = m + 1 := ⟨k - 1, by omega⟩; exact hs k⟩
theorem ev_step {β γ : Type} {F : Nat → Option β} {r : β} {G : Nat → Option γ} {q : γ} (h : Ev G q) (hs : ∀ k, G k = some q → F (k + 1) = some r) : Ev F r := by
  obtain ⟨K, hK⟩ := h
  exact ⟨K + 1, fun k hk => by obtain ⟨k, rfl⟩ : ∃ m, k = m + 1 := ⟨k - 1, by omega⟩; exact hs k (hK k (by omega))⟩
theorem ev_step2 {β γ δ : Type} {F : Nat → Option β} {r : β} {G : Nat → Option γ} {q : γ} {G' : Nat → Option δ} {q' : δ} (h : Ev G q) (h' : Ev G' q') (hs : ∀ k, G k = some q → G' k = some q' → F (k + 1) = some r) : Ev F r := by
  obtain ⟨K, hK⟩ := h
  obtain ⟨K', hK'⟩ := h'
  exact ⟨K + K' + 1, fun k hk => by obtain ⟨k, rfl⟩ : ∃ m, k = m + 1 := ⟨k - 1, by omega⟩; exact hs k (hK k (by omega)) (hK' k (by omega))⟩
theorem ev_map {β γ : Type} {F : Nat → Option β} {r : β} {G : Nat → Option γ} {q : γ} (h : Ev G q) (hs : ∀ k, G k = some q → F k = some r) : Ev F r := by
  obtain ⟨K, hK⟩ := h
  exact ⟨K, fun k hk => hs k (hK k hk)⟩
theorem ev_map2 {β γ δ : Type} {F : Nat → Option β} {r : β} {G : Nat → Option γ} {q : γ} {G' : Nat → Option δ} {q' : δ} (h : Ev G q) (h' : Ev G' q') (hs : ∀ k, G k = some q → G' k = some q' → F k = some r) : Ev F r := by
  obtain ⟨K, hK⟩ := h
  obtain ⟨K', hK'⟩ := h'
  exact ⟨K + K', fun k hk => hs k (hK k (by omega)) (hK' k (by omega))⟩
theorem ev_eq {β : Type} {F : Nat → Option β} {r r' : β} (h : Ev F r) (e : r = r') : Ev F r' := e ▸ h
theorem ev_all {β : Type} {F : Nat → Option β} {r : β} (h : ∀ k, F k = some r) : Ev F r := ⟨0, fun k _ => h k⟩
/-- Two ends of one run are one. -/
theorem ev_one {β : Type} {F : Nat → Option β} {r r' : β} {k : Nat} (hm : ∀ k, LeO (F k) (F (k + 1))) (h : F k = some r) (h' : Ev F r') : r = r' := by
  obtain ⟨K, hK⟩ := h'
  have h1 : F (k + K) = some r := at_rounds hm (Nat.le_add_right _ _) h
  rw [hK (k + K) (Nat.le_add_left _ _)] at h1
  exact (Option.some.inj h1).symm
/-- A loop over the indexes of a list, as a walk along its tails. -/
theorem walk_tails {α β : Type} (l : List α) (d : α) (F : Nat → Int → Option β) (G : List α → β)
    (hend : Ev (fun k => F k (l.length : Int)) (G []))
    (hstep : ∀ (i : Nat), i < l.length → Ev (fun k => F k ((i + 1 : Nat) : Int)) (G (l.drop (i + 1))) → Ev (fun k => F k (i : Int)) (G (l.getD i d :: l.drop (i + 1)))) :
    ∀ (n i : Nat), i ≤ l.length → l.length - i = n → Ev (fun k => F k (i : Int)) (G (l.drop i)) := by
  intro n
  induction n with
  | zero =>
    intro i h1 h2
    obtain rfl : i = l.length := by omega
    rw [List.drop_length]; exact hend
  | succ n ih =>
    intro i h1 h2
    have hlt : i < l.length := by omega
    rw [drop_at l d i hlt]
    exact hstep i hlt (ih (i + 1) (by omega) (by omega))
theorem walk_all {α β : Type} (l : List α) (d : α) (F : Nat → Int → Option β) (G : List α → β)
    (hend : Ev (fun k => F k (l.length : Int)) (G []))
    (hstep : ∀ (i : Nat), i < l.length → Ev (fun k => F k ((i + 1 : Nat) : Int)) (G (l.drop (i + 1))) → Ev (fun k => F k (i : Int)) (G (l.getD i d :: l.drop (i + 1)))) :
    Ev (fun k => F k 0) (G l) := walk_tails l d F G hend hstep l.length 0 (by omega) (by omega)

/-! what a name is -/
def letterI (c : Int) : Bool := (decide (65 ≤ c) && decide (c ≤ 90)) || (decide (97 ≤ c) && decide (c ≤ 122)) || (decide (48 ≤ c) && decide (c ≤ 57)) || decide (c = 95)
def wordB (s : ByteArray) : Bool := decide (1 ≤ s.size) && decide (s.size ≤ 32) && (bytesOf s).all letterI
/-- no name stands among the earlier ones -/
def freshB : List ByteArray → List ByteArray → Bool
  | _, [] => true
  | seen, x :: r => wordB x && !(seen.any fun y => decide (y = x)) && freshB (seen ++ [x]) r
def namesB (l : List ByteArray) : Bool := decide (1 ≤ l.length) && decide (l.length ≤ 250) && freshB [] l

/-! ### prelude maps -/
/-! A map that the call has made, told by what it holds at each key: its elements are told by themselves, whatever they are. -/
def anyR : Value → Option (DataW Value × List MemPlace) := fun v => some (.held v, [])
def MapIs {κ : Type} (enc : κ → Lit) (w : World) (P : Program) (k : TypeId) (b n : Nat) (f : κ → Option Value) : Prop :=
  ∃ D : DataW Value, w.ownsMap P k anyR b n D ∧ (∀ x, Maps.has D (enc x) = (f x).isSome) ∧ ∀ x v, f x = some v → ∀ z, D.atKey (enc x) z = .held v
def encS (s : ByteArray) : Lit := .string s.data.toList
def encI (x : Int) : Lit := .int .i64 x
theorem encS_inj (s t : ByteArray) (h : encS s = encS t) : s = t := by
  unfold encS at h
  injection h with h
  cases s with | mk x => cases t with | mk y => exact congrArg ByteArray.mk (Array.toList_inj.1 h)
theorem encI_inj (s t : Int) (h : encI s = encI t) : s = t := by unfold encI at h; injection h
theorem encS_key (s : ByteArray) : WideAt.IsKeyLit (encS s) := trivial
theorem encI_key (s : Int) : WideAt.IsKeyLit (encI s) := trivial
section
variable {κ : Type} {enc : κ → Lit} {w w' : World} {P : Program} {k e t : TypeId} {b n : Nat} {f : κ → Option Value}
theorem MapIs.made (w : World) (P : Program) (k : TypeId) : MapIs enc (w.alloc (.map #[] 0)) P k w.heap.size 0 (fun _ => none) :=
  ⟨.map [], World.ownsMap_made w P k anyR, fun _ => rfl, fun _ v h => by cases h⟩
theorem MapIs.kept {row : Option Nat} (h : MapIs enc w P k b n f) (hg : w.grownBy w' row) (hne : some b ≠ row) : MapIs enc w' P k b n f := by
  obtain ⟨D, h1, h2, h3⟩ := h
  exact ⟨D, h1.kept hg hne, h2, h3⟩
theorem MapIs.lt (h : MapIs enc w P k b n f) : b < w.heap.size := by obtain ⟨D, h1, _⟩ := h; exact h1.lt
theorem MapIs.below (h : MapIs enc w P k b n f) (hb : Below w.heap.size w w') : MapIs enc w' P k b n f := h.kept (grown_of_below hb none) (by simp)
theorem MapIs.alloc (h : MapIs enc w P k b n f) (o : Obj) : MapIs enc (w.alloc o) P k b n f := h.below (below_alloc (Below.refl _ _) o)
theorem MapIs.drewN (h : MapIs enc w P k b n f) (m : Nat) : MapIs enc (w.drewN m) P k b n f := h
theorem MapIs.setCell (h : MapIs enc w P k b n f) {a : Addr} (ha : b ≠ a.block) (u : Value) : MapIs enc (w.setCell a u) P k b n f := by
  obtain ⟨D, h1, h2, h3⟩ := h
  exact ⟨D, h1.setCell ha u, h2, h3⟩
theorem MapIs.mono (h : MapIs enc w P k b n f) {m : Nat} (hm : n ≤ m) : MapIs enc w P k b m f := by
  obtain ⟨D, h1, h2, h3⟩ := h
  exact ⟨D, h1.mono hm, h2, h3⟩
theorem MapIs.look_ok (h : MapIs enc w P k b n f) (K : Maps.Keyed P k) (ht : P.underlying t = some (.map k e)) {z : Value} (hz : (zeroValue e).run P w = .ok z w) {key : Value} {x : κ} (hkey : keyOf P k key = some (enc x)) :
    (Instr.lookup t (.map (some b)) key true).run P w = .ok (.tuple #[(f x).getD z, .bool (f x).isSome]) w := by
  obtain ⟨D, h1, h2, h3⟩ := h
  obtain ⟨v, ps, hrun, hv⟩ := h1.look_ok K ht hz (show anyR z = some (.held z, []) from rfl) hkey
  rw [hrun, h2 x]
  have hv' : DataW.held v = D.atKey (enc x) (.held z) := congrArg Prod.fst (Option.some.inj hv)
  cases hf : f x with
  | none =>
    have hn : Maps.has D (enc x) = false := by rw [h2 x, hf]; rfl
    rw [Maps.atKey_of_not_has hn] at hv'
    injection hv' with e; rw [e]; rfl
  | some u =>
    rw [h3 x u hf] at hv'
    injection hv' with e; rw [e]; rfl
theorem MapIs.look (h : MapIs enc w P k b n f) (K : Maps.Keyed P k) (ht : P.underlying t = some (.map k e)) {z : Value} (hz : (zeroValue e).run P w = .ok z w) {key : Value} {x : κ} (hkey : keyOf P k key = some (enc x)) :
    (Instr.lookup t (.map (some b)) key false).run P w = .ok ((f x).getD z) w := by
  obtain ⟨D, h1, h2, h3⟩ := h
  obtain ⟨v, ps, hrun, hv⟩ := h1.lookup K ht hz (show anyR z = some (.held z, []) from rfl) hkey
  rw [hrun]
  have hv' : DataW.held v = D.atKey (enc x) (.held z) := congrArg Prod.fst (Option.some.inj hv)
  cases hf : f x with
  | none =>
    have hn : Maps.has D (enc x) = false := by rw [h2 x, hf]; rfl
    rw [Maps.atKey_of_not_has hn] at hv'
    injection hv' with e; rw [e]; rfl
  | some u =>
    rw [h3 x u hf] at hv'
    injection hv' with e; rw [e]; rfl
theorem MapIs.update [DecidableEq κ] (h : MapIs enc w P k b n f) (K : Maps.Keyed P k) (ht : P.underlying t = some (.map k e)) (hinj : ∀ x y, enc x = enc y → x = y) (hn : n < maxLen) {key : Value} {x : κ} (hkey : keyOf P k key = some (enc x)) (hkl : WideAt.IsKeyLit (enc x)) (v : Value) :
    ∃ w', (Instr.mapUpdate t (.map (some b)) key v).run P w = .ok () w' ∧ MapIs enc w' P k b (n + 1) (fun y => if y = x then some v else f y) ∧ w.grownBy w' (some b) := by
  obtain ⟨D, h1, h2, h3⟩ := h
  have hD := h1.isMap
  obtain ⟨w', hrun, h4, h5⟩ := h1.update K ht hn hkey (show anyR v = some (.held v, []) from rfl)
  refine ⟨w', hrun, ⟨_, h4, fun y => ?_, fun y u hu z => ?_⟩, h5⟩
  · dsimp only
    by_cases hk : y = x
    · subst hk; rw [if_pos rfl, Maps.has_put_same hD hkl]; rfl
    · rw [if_neg hk, Maps.has_put_other (fun e => hk (hinj _ _ e)), h2]
  · dsimp only at hu
    by_cases hk : y = x
    · subst hk; rw [if_pos rfl] at hu; cases hu; exact Maps.atKey_put_same hD hkl _ _
    · rw [if_neg hk] at hu; rw [Maps.atKey_put_other (fun e => hk (hinj _ _ e))]; exact h3 y u hu z
end
section
variable {κ : Type} {enc : κ → Lit} {P : Program} (w : World) {ops : Array Oper} {rest : List Oper} {o : Oper} {a : Act} {Q : Exit → Act → World → Prop}
theorem wpList_mapis_ok (hg : o.guard = none) (m x : Operand) (t : TypeId) (hop : o.op = Op.lookup t m x true)
    (k e : TypeId) (K : Maps.Keyed P k) (ht : P.underlying t = some (.map k e)) {z : Value} (hz : (zeroValue e).run P w = .ok z w) (b n : Nat) (f : κ → Option Value)
    (hm : a.eval m = .map (some b)) (hown : MapIs enc w P k b n f) (key : Value) (kx : κ) (hx : a.eval x = key) (hkey : keyOf P k key = some (enc kx))
    (hK : wpList P ops Q rest (a.put o.dst (.tuple #[(f kx).getD z, .bool (f kx).isSome])) w) :
    wpList P ops Q (o :: rest) a w := by
  refine wpList_plain hg fun K' hK' => ?_
  have hrun := hown.look_ok K ht hz hkey
  unfold Oper.wp
  simp [execOp, hop, hm, hx, hrun, Result.andThen]
  exact hK' _ _ hK
theorem wpList_mapis (hg : o.guard = none) (m x : Operand) (t : TypeId) (hop : o.op = Op.lookup t m x false)
    (k e : TypeId) (K : Maps.Keyed P k) (ht : P.underlying t = some (.map k e)) {z : Value} (hz : (zeroValue e).run P w = .ok z w) (b n : Nat) (f : κ → Option Value)
    (hm : a.eval m = .map (some b)) (hown : MapIs enc w P k b n f) (key : Value) (kx : κ) (hx : a.eval x = key) (hkey : keyOf P k key = some (enc kx))
    (hK : wpList P ops Q rest (a.put o.dst ((f kx).getD z)) w) :
    wpList P ops Q (o :: rest) a w := by
  refine wpList_plain hg fun K' hK' => ?_
  have hrun := hown.look K ht hz hkey
  unfold Oper.wp
  simp [execOp, hop, hm, hx, hrun, Result.andThen]
  exact hK' _ _ hK
theorem wpList_mapis_upd [DecidableEq κ] (hg : o.guard = none) (m x v : Operand) (t : TypeId) (hop : o.op = Op.mapUpdate t m x v)
    (k e : TypeId) (K : Maps.Keyed P k) (ht : P.underlying t = some (.map k e)) (b n : Nat) (f : κ → Option Value)
    (hm : a.eval m = .map (some b)) (hown : MapIs enc w P k b n f) (hinj : ∀ x y, enc x = enc y → x = y) (hn : n < maxLen) (key val : Value) (kx : κ) (hx : a.eval x = key) (hv : a.eval v = val) (hkey : keyOf P k key = some (enc kx)) (hkl : WideAt.IsKeyLit (enc kx))
    (hK : ∀ w', MapIs enc w' P k b (n + 1) (fun y => if y = kx then some val else f y) → w.grownBy w' (some b) → wpList P ops Q rest (a.put o.dst undef) w') :
    wpList P ops Q (o :: rest) a w := by
  refine wpList_plain hg fun K' hK' => ?_
  obtain ⟨w', hrun, r1, r2⟩ := hown.update K ht hinj hn hkey hkl val
  unfold Oper.wp
  simp [execOp, hop, hm, hx, hv, hrun, Result.andThen]
  exact hK' _ _ (hK w' r1 r2)
end

/-! ### prelude own -/
theorem infoStr : (Try.prog.info? 9).map (fun i => (i.zero, i.size, i.bytes)) = some (some (.string ⟨#[]⟩), 1, 16) := by kernel_rfl
theorem zero_int (w : World) : (zeroValue 3).run Try.prog w = .ok (.int .i64 0) w := by kernel_rfl
theorem zero_str (w : World) : (zeroValue 9).run Try.prog w = .ok (.string ⟨#[]⟩) w := by kernel_rfl
theorem zero_bool (w : World) : (zeroValue 4).run Try.prog w = .ok (.bool false) w := by kernel_rfl
theorem law_str : Maps.Keyed Try.prog 9 := Maps.string_keyed Try.underlying9
theorem law_int : Maps.Keyed Try.prog 3 := Maps.int_keyed Try.underlying3
def sizesB (l : List ByteArray) : Bool := l.all fun s => decide (s.size ≤ 9223372036854775807)
theorem sizes_at {l : List ByteArray} (h : sizesB l = true) (k : Nat) : (l.getD k ByteArray.empty).size ≤ 9223372036854775807 := by
  rw [List.getD_eq_getElem?_getD]
  cases e : l[k]? with
  | none => decide
  | some x =>
    have hm := List.mem_of_getElem? e
    have := (List.all_eq_true.1 h) x hm
    simpa using this
def intsB (l : List Int) : Bool := l.all fun x => decide (-9223372036854775808 ≤ x) && decide (x ≤ 9223372036854775807)
theorem ints_at {l : List Int} (h : intsB l = true) (k : Nat) : -9223372036854775808 ≤ l.getD k 0 ∧ l.getD k 0 ≤ 9223372036854775807 := by
  rw [List.getD_eq_getElem?_getD]
  cases e : l[k]? with
  | none => exact ⟨by decide, by decide⟩
  | some x =>
    have hm := List.mem_of_getElem? e
    have := (List.all_eq_true.1 h) x hm
    simpa using this
theorem key_int (x : Int) (h : -9223372036854775808 ≤ x ∧ x ≤ 9223372036854775807) : keyOf Try.prog 3 (.int .i64 x) = some (encI x) :=
  Maps.keyOf_int_mk Try.underlying3 (Go.WalkArith.wf_i64 h)
theorem key_str (s : ByteArray) (h : s.size ≤ 9223372036854775807) : keyOf Try.prog 9 (.string s) = some (encS s) :=
  Go.WideMaps.keyOf_string_mk Try.underlying9 (by unfold maxLen; exact h)
/-- a map's block is no row's -/
theorem MapIs.ne_row {κ : Type} {enc : κ → Lit} {w : World} {P : Program} {k : TypeId} {b n : Nat} {f : κ → Option Value} (h : MapIs enc w P k b n f) {α : Type} {d : Kd α} {e base : Nat} {ok : Nat → Prop} {v : Value} {xs : List α} (hR : d.R e w base ok v xs) : some b ≠ v.ownBlock := by
  obtain ⟨D, ⟨es, clock, hb, _⟩, _⟩ := h
  intro hv
  obtain ⟨inner, ho⟩ := Kd.R_own hR
  obtain ⟨cells, hc⟩ := own_typed ho b hv.symm
  rw [hb] at hc
  cases hc
theorem Kd.R_off_map {κ : Type} {enc : κ → Lit} {w w1 : World} {P : Program} {k : TypeId} {b n : Nat} {f : κ → Option Value} {α : Type} {d : Kd α} {e base : Nat} {ok : Nat → Prop} {v : Value} {xs : List α} (h : d.R e w base ok v xs) (hM : MapIs enc w P k b n f) (hg : w.grownBy w1 (some b)) : d.R e w1 base ok v xs := by
  obtain ⟨D, ⟨es, clock, hb, _⟩, _⟩ := hM
  refine Kd.R_mono (Kd.R_move (Kd.R_bound h) fun k hk => ?_) (fun _ hk => hk.1)
  obtain ⟨_, _, hlt, q, _, cells, hc⟩ := hk
  refine hg.block k hlt fun e => ?_
  injection e with e
  subst e
  rw [hb] at hc; cases hc
/-- where a list first pays p, or -1 -/
def idxFrom {α : Type} (p : α → Bool) : List α → Nat → Int
  | [], _ => -1
  | x :: r, i => if p x = true then (i : Int) else idxFrom p r (i + 1)
theorem idx_any {α : Type} (p : α → Bool) : ∀ (l : List α) (i : Nat), decide (0 ≤ idxFrom p l i) = l.any p := by
  intro l
  induction l with
  | nil => intro i; rfl
  | cons x r ih =>
    intro i
    unfold idxFrom
    by_cases h : p x = true
    · rw [if_pos h, List.any_cons, h, decide_eq_true (by omega)]; rfl
    · rw [if_neg h, ih, List.any_cons, Bool.eq_false_iff.mpr h]; rfl

end Go.Proofs.Ytneelkaelcilfaa.PA

-- Laid by hprint.py (this session's program, over the kit's print) for the seat YthnkkohhohkbkaaDoor. Lean checks it.
import Derived.Test.YthnkkohhohkbkaaDoorMPx0
namespace Go.Proofs.YthnkkohhohkbkaaDoor.MP
open Go.RowKit Go.Proofs.YthnkkohhohkbkaaDoorW.PrintWords Go.Proofs.YthnkkohhohkbkaaDoorW.PrintLast Go.Proofs.YthnkkohhohkbkaaDoorW.PrintMore
attribute [local go_sem] max2_int min2_int max_two min_two max_three min_three max_four min_four   -- for this text's walks alone
set_option linter.unusedVariables false
set_option linter.unusedSimpArgs false

/-! ### prelude base -/
theorem bs_eq (a b : ByteArray) : a.toList = b.toList ↔ a = b := by
  rw [ByteArray.toList_eq, ByteArray.toList_eq]
  constructor
  · intro h
    cases a with | mk x => cases b with | mk y => exact congrArg ByteArray.mk (Array.toList_inj.1 h)
  · rintro rfl; rfl
theorem wrap_up {i : Int} {n : Nat} (h0 : 0 ≤ i) (h : i < (n : Int)) (hn : n ≤ 9223372036854775807) : wrap64 (i + 1) = i + 1 := by
  unfold wrap64; omega
theorem wrap_in (n : Int) (h0 : -9223372036854775808 ≤ n) (h1 : n ≤ 9223372036854775807) : wrap64 n = n := by unfold wrap64; omega
theorem drop_at {α : Type} (l : List α) (d : α) (i : Nat) (h : i < l.length) : l.drop i = l.getD i d :: l.drop (i + 1) := by
  rw [List.drop_eq_getElem_cons h, List.getD_eq_getElem?_getD, List.getElem?_eq_getElem h]; rfl
theorem rd_nat (l : List Int) (i : Nat) : rd l (i : Int) = l.getD i 0 := rfl
theorem rdOf_nat {α : Type} (d : α) (l : List α) (i : Nat) : rdOf d l (i : Int) = l.getD i d := rfl
theorem bt_nat (s : ByteArray) (i : Nat) : bt s (i : Int) = (bytesOf s).getD i 0 := (rd_bytesOf s (i : Int)).symm
theorem succ_cast (i : Nat) : ((i : Int) + 1) = ((i + 1 : Nat) : Int) := by omega
theorem ev_end {β : Type} {F : Nat → Option β} {r : β} (hs : ∀ k, F (k + 1) = some r) : Ev F r :=
  ⟨1, fun k hk => by obtain ⟨k, rfl⟩ : ∃ m, k = m + 1 := ⟨k - 1, by omega⟩; exact hs k⟩
theorem ev_step {β γ : Type} {F : Nat → Option β} {r : β} {G : Nat → Option γ} {q : γ} (h : Ev G q) (hs : ∀ k, G k = some q → F (k + 1) = some r) : Ev F r := by
  obtain ⟨K, hK⟩ := h
  exact ⟨K + 1, fun k hk => by obtain ⟨k, rfl⟩ : ∃ m, k = m + 1 := ⟨k - 1, by omega⟩; exact hs k (hK k (by omega))⟩
theorem ev_step2 {β γ δ : Type} {F : Nat → Option β} {r : β} {G : Nat → Option γ} {q : γ} {G' : Nat → Option δ} {q' : δ} (h : Ev G q) (h' : Ev G' q') (hs : ∀ k, G k = some q → G' k = some q' → F (k + 1) = some r) : Ev F r := by
  obtain ⟨K, hK⟩ := h
  obtain ⟨K', hK'⟩ := h'
  exact ⟨K + K' + 1, fun k hk => by obtain ⟨k, rfl⟩ : ∃ m, k = m + 1 := ⟨k - 1, by omega⟩; exact hs k (hK k (by omega)) (hK' k (by omega))⟩
theorem ev_map {β γ : Type} {F : Nat → Option β} {r : β} {G : Nat → Option γ} {q : γ} (h : Ev G q) (hs : ∀ k, G k = some q → F k = some r) : Ev F r := by
  obtain ⟨K, hK⟩ := h
  exact ⟨K, fun k hk => hs k (hK k hk)⟩
theorem ev_map2 {β γ δ : Type} {F : Nat → Option β} {r : β} {G : Nat → Option γ} {q : γ} {G' : Nat → Option δ} {q' : δ} (h : Ev G q) (h' : Ev G' q') (hs : ∀ k, G k = some q → G' k = some q' → F k = some r) : Ev F r := by
  obtain ⟨K, hK⟩ := h
  obtain ⟨K', hK'⟩ := h'
  exact ⟨K + K', fun k hk => hs k (hK k (by omega)) (hK' k (by omega))⟩
theorem ev_eq {β : Type} {F : Nat → Option β} {r r' : β} (h : Ev F r) (e : r = r') : Ev F r' := e ▸ h
theorem ev_all {β : Type} {F : Nat → Option β} {r : β} (h : ∀ k, F k = some r) : Ev F r := ⟨0, fun k _ => h k⟩
/-- Two ends of one run are one. -/
theorem ev_one {β : Type} {F : Nat → Option β} {r r' : β} {k : Nat} (hm : ∀ k, LeO (F k) (F (k + 1))) (h : F k = some r) (h' : Ev F r') : r = r' := by
  obtain ⟨K, hK⟩ := h'
  have h1 : F (k + K) = some r := at_rounds hm (Nat.le_add_right _ _) h
  rw [hK (k + K) (Nat.le_add_left _ _)] at h1
  exact (Option.some.inj h1).symm
/-- A loop over the indexes of a list, as a walk along its tails. -/
theorem walk_tails {α β : Type} (l : List α) (d : α) (F : Nat → Int → Option β) (G : List α → β)
    (hend : Ev (fun k => F k (l.length : Int)) (G []))
    (hstep : ∀ (i : Nat), i < l.length → Ev (fun k => F k ((i + 1 : Nat) : Int)) (G (l.drop (i + 1))) → Ev (fun k => F k (i : Int)) (G (l.getD i d :: l.drop (i + 1)))) :
    ∀ (n i : Nat), i ≤ l.length → l.length - i = n → Ev (fun k => F k (i : Int)) (G (l.drop i)) := by
  intro n
  induction n with
  | zero =>
    intro i h1 h2
    obtain rfl : i = l.length := by omega
    rw [List.drop_length]; exact hend
  | succ n ih =>
    intro i h1 h2
    have hlt : i < l.length := by omega
    rw [drop_at l d i hlt]
    exact hstep i hlt (ih (i + 1) (by omega) (by omega))
theorem walk_all {α β : Type} (l : List α) (d : α) (F : Nat → Int → Option β) (G : List α → β)
    (hend : Ev (fun k => F k (l.length : Int)) (G []))
    (hstep : ∀ (i : Nat), i < l.length → Ev (fun k => F k ((i + 1 : Nat) : Int)) (G (l.drop (i + 1))) → Ev (fun k => F k (i : Int)) (G (l.getD i d :: l.drop (i + 1)))) :
    Ev (fun k => F k 0) (G l) := walk_tails l d F G hend hstep l.length 0 (by omega) (by omega)

/-! what a name is -/
def letterI (c : Int) : Bool := (decide (65 ≤ c) && decide (c ≤ 90)) || (decide (97 ≤ c) && decide (c ≤ 122)) || (decide (48 ≤ c) && decide (c ≤ 57)) || decide (c = 95)
def wordB (s : ByteArray) : Bool := decide (1 ≤ s.size) && decide (s.size ≤ 32) && (bytesOf s).all letterI
/-- no name stands among the earlier ones -/
def freshB : List ByteArray → List ByteArray → Bool
  | _, [] => true
  | seen, x :: r => wordB x && !(seen.any fun y => decide (y = x)) && freshB (seen ++ [x]) r
def namesB (l : List ByteArray) : Bool := decide (1 ≤ l.length) && decide (l.length ≤ 250) && freshB [] l

/-! ### prelude maps -/
/-! A map that the call has made, told by what it holds at each key: its elements are told by themselves, whatever they are. -/
def anyR : Value → Option (DataW Value × List MemPlace) := fun v => some (.held v, [])
def MapIs {κ : Type} (enc : κ → Lit) (w : World) (P : Program) (k : TypeId) (b n : Nat) (f : κ → Option Value) : Prop :=
  ∃ D : DataW Value, w.ownsMap P k anyR b n D ∧ (∀ x, Maps.has D (enc x) = (f x).isSome) ∧ ∀ x v, f x = some v → ∀ z, D.atKey (enc x) z = .held v
def encS (s : ByteArray) : Lit := .string s.data.toList
def encI (x : Int) : Lit := .int .i64 x
theorem encS_inj (s t : ByteArray) (h : encS s = encS t) : s = t := by
  unfold encS at h
  injection h with h
  cases s with | mk x => cases t with | mk y => exact congrArg ByteArray.mk (Array.toList_inj.1 h)
theorem encI_inj (s t : Int) (h : encI s = encI t) : s = t := by unfold encI at h; injection h
theorem encS_key (s : ByteArray) : WideAt.IsKeyLit (encS s) := trivial
theorem encI_key (s : Int) : WideAt.IsKeyLit (encI s) := trivial
section
variable {κ : Type} {enc : κ → Lit} {w w' : World} {P : Program} {k e t : TypeId} {b n : Nat} {f : κ → Option Value}
theorem MapIs.made (w : World) (P : Program) (k : TypeId) : MapIs enc (w.alloc (.map #[] 0)) P k w.heap.size 0 (fun _ => none) :=
  ⟨.map [], World.ownsMap_made w P k anyR, fun _ => rfl, fun _ v h => by cases h⟩
theorem MapIs.kept {row : Option Nat} (h : MapIs enc w P k b n f) (hg : w.grownBy w' row) (hne : some b ≠ row) : MapIs enc w' P k b n f := by
  obtain ⟨D, h1, h2, h3⟩ := h
  exact ⟨D, h1.kept hg hne, h2, h3⟩
theorem MapIs.lt (h : MapIs enc w P k b n f) : b < w.heap.size := by obtain ⟨D, h1, _⟩ := h; exact h1.lt
theorem MapIs.below (h : MapIs enc w P k b n f) (hb : Below w.heap.size w w') : MapIs enc w' P k b n f := h.kept (grown_of_below hb none) (by simp)
theorem MapIs.alloc (h : MapIs enc w P k b n f) (o : Obj) : MapIs enc (w.alloc o) P k b n f := h.below (below_alloc (Below.refl _ _) o)
theorem MapIs.drewN (h : MapIs enc w P k b n f) (m : Nat) : MapIs enc (w.drewN m) P k b n f := h
theorem MapIs.setCell (h : MapIs enc w P k b n f) {a : Addr} (ha : b ≠ a.block) (u : Value) : MapIs enc (w.setCell a u) P k b n f := by
  obtain ⟨D, h1, h2, h3⟩ := h
  exact ⟨D, h1.setCell ha u, h2, h3⟩
theorem MapIs.mono (h : MapIs enc w P k b n f) {m : Nat} (hm : n ≤ m) : MapIs enc w P k b m f := by
  obtain ⟨D, h1, h2, h3⟩ := h
  exact ⟨D, h1.mono hm, h2, h3⟩
theorem MapIs.look_ok (h : MapIs enc w P k b n f) (K : Maps.Keyed P k) (ht : P.underlying t = some (.map k e)) {z : Value} (hz : (zeroValue e).run P w = .ok z w) {key : Value} {x : κ} (hkey : keyOf P k key = some (enc x)) :
    (Instr.lookup t (.map (some b)) key true).run P w = .ok (.tuple #[(f x).getD z, .bool (f x).isSome]) w := by
  obtain ⟨D, h1, h2, h3⟩ := h
  obtain ⟨v, ps, hrun, hv⟩ := h1.look_ok K ht hz (show anyR z = some (.held z, []) from rfl) hkey
  rw [hrun, h2 x]
  have hv' : DataW.held v = D.atKey (enc x) (.held z) := congrArg Prod.fst (Option.some.inj hv)
  cases hf : f x with
  | none =>
    have hn : Maps.has D (enc x) = false := by rw [h2 x, hf]; rfl
    rw [Maps.atKey_of_not_has hn] at hv'
    injection hv' with e; rw [e]; rfl
  | some u =>
    rw [h3 x u hf] at hv'
    injection hv' with e; rw [e]; rfl
theorem MapIs.look (h : MapIs enc w P k b n f) (K : Maps.Keyed P k) (ht : P.underlying t = some (.map k e)) {z : Value} (hz : (zeroValue e).run P w = .ok z w) {key : Value} {x : κ} (hkey : keyOf P k key = some (enc x)) :
    (Instr.lookup t (.map (some b)) key false).run P w = .ok ((f x).getD z) w := by
  obtain ⟨D, h1, h2, h3⟩ := h
  obtain ⟨v, ps, hrun, hv⟩ := h1.lookup K ht hz (show anyR z = some (.held z, []) from rfl) hkey
  rw [hrun]
  have hv' : DataW.held v = D.atKey (enc x) (.held z) := congrArg Prod.fst (Option.some.inj hv)
  cases hf : f x with
  | none =>
    have hn : Maps.has D (enc x) = false := by rw [h2 x, hf]; rfl
    rw [Maps.atKey_of_not_has hn] at hv'
    injection hv' with e; rw [e]; rfl
  | some u =>
    rw [h3 x u hf] at hv'
    injection hv' with e; rw [e]; rfl
theorem MapIs.update [DecidableEq κ] (h : MapIs enc w P k b n f) (K : Maps.Keyed P k) (ht : P.underlying t = some (.map k e)) (hinj : ∀ x y, enc x = enc y → x = y) (hn : n < maxLen) {key : Value} {x : κ} (hkey : keyOf P k key = some (enc x)) (hkl : WideAt.IsKeyLit (enc x)) (v : Value) :
    ∃ w', (Instr.mapUpdate t (.map (some b)) key v).run P w = .ok () w' ∧ MapIs enc w' P k b (n + 1) (fun y => if y = x then some v else f y) ∧ w.grownBy w' (some b) := by
  obtain ⟨D, h1, h2, h3⟩ := h
  have hD := h1.isMap
  obtain ⟨w', hrun, h4, h5⟩ := h1.update K ht hn hkey (show anyR v = some (.held v, []) from rfl)
  refine ⟨w', hrun, ⟨_, h4, fun y => ?_, fun y u hu z => ?_⟩, h5⟩
  · dsimp only
    by_cases hk : y = x
    · subst hk; rw [if_pos rfl, Maps.has_put_same hD hkl]; rfl
    · rw [if_neg hk, Maps.has_put_other (fun e => hk (hinj _ _ e)), h2]
  · dsimp only at hu
    by_cases hk : y = x
    · subst hk; rw [if_pos rfl] at hu; cases hu; exact Maps.atKey_put_same hD hkl _ _
    · rw [if_neg hk] at hu; rw [Maps.atKey_put_other (fun e => hk (hinj _ _ e))]; exact h3 y u hu z
end
section
variable {κ : Type} {enc : κ → Lit} {P : Program} (w : World) {ops : Array Oper} {rest : List Oper} {o : Oper} {a : Act} {Q : Exit → Act → World → Prop}
theorem wpList_mapis_ok (hg : o.guard = none) (m x : Operand) (t : TypeId) (hop : o.op = Op.lookup t m x true)
    (k e : TypeId) (K : Maps.Keyed P k) (ht : P.underlying t = some (.map k e)) {z : Value} (hz : (zeroValue e).run P w = .ok z w) (b n : Nat) (f : κ → Option Value)
    (hm : a.eval m = .map (some b)) (hown : MapIs enc w P k b n f) (key : Value) (kx : κ) (hx : a.eval x = key) (hkey : keyOf P k key = some (enc kx))
    (hK : wpList P ops Q rest (a.put o.dst (.tuple #[(f kx).getD z, .bool (f kx).isSome])) w) :
    wpList P ops Q (o :: rest) a w := by
  refine wpList_plain hg fun K' hK' => ?_
  have hrun := hown.look_ok K ht hz hkey
  unfold Oper.wp
  simp [execOp, hop, hm, hx, hrun, Result.andThen]
  exact hK' _ _ hK
theorem wpList_mapis (hg : o.guard = none) (m x : Operand) (t : TypeId) (hop : o.op = Op.lookup t m x false)
    (k e : TypeId) (K : Maps.Keyed P k) (ht : P.underlying t = some (.map k e)) {z : Value} (hz : (zeroValue e).run P w = .ok z w) (b n : Nat) (f : κ → Option Value)
    (hm : a.eval m = .map (some b)) (hown : MapIs enc w P k b n f) (key : Value) (kx : κ) (hx : a.eval x = key) (hkey : keyOf P k key = some (enc kx))
    (hK : wpList P ops Q rest (a.put o.dst ((f kx).getD z)) w) :
    wpList P ops Q (o :: rest) a w := by
  refine wpList_plain hg fun K' hK' => ?_
  have hrun := hown.look K ht hz hkey
  unfold Oper.wp
  simp [execOp, hop, hm, hx, hrun, Result.andThen]
  exact hK' _ _ hK
theorem wpList_mapis_upd [DecidableEq κ] (hg : o.guard = none) (m x v : Operand) (t : TypeId) (hop : o.op = Op.mapUpdate t m x v)
    (k e : TypeId) (K : Maps.Keyed P k) (ht : P.underlying t = some (.map k e)) (b n : Nat) (f : κ → Option Value)
    (hm : a.eval m = .map (some b)) (hown : MapIs enc w P k b n f) (hinj : ∀ x y, enc x = enc y → x = y) (hn : n < maxLen) (key val : Value) (kx : κ) (hx : a.eval x = key) (hv : a.eval v = val) (hkey : keyOf P k key = some (enc kx)) (hkl : WideAt.IsKeyLit (enc kx))
    (hK : ∀ w', MapIs enc w' P k b (n + 1) (fun y => if y = kx then some val else f y) → w.grownBy w' (some b) → wpList P ops Q rest (a.put o.dst undef) w') :
    wpList P ops Q (o :: rest) a w := by
  refine wpList_plain hg fun K' hK' => ?_
  obtain ⟨w', hrun, r1, r2⟩ := hown.update K ht hinj hn hkey hkl val
  unfold Oper.wp
  simp [execOp, hop, hm, hx, hv, hrun, Result.andThen]
  exact hK' _ _ (hK w' r1 r2)
end

/-! ### prelude own -/
theorem infoStr : (Tryd.prog.info? 9).map (fun i => (i.zero, i.size, i.bytes)) = some (some (.string ⟨#[]⟩), 1, 16) := by kernel_rfl
theorem zero_int (w : World) : (zeroValue 3).run Tryd.prog w = .ok (.int .i64 0) w := by kernel_rfl
theorem zero_str (w : World) : (zeroValue 9).run Tryd.prog w = .ok (.string ⟨#[]⟩) w := by kernel_rfl
theorem zero_bool (w : World) : (zeroValue 4).run Tryd.prog w = .ok (.bool false) w := by kernel_rfl
theorem law_str : Maps.Keyed Tryd.prog 9 := Maps.string_keyed Tryd.underlying9
theorem law_int : Maps.Keyed Tryd.prog 3 := Maps.int_keyed Tryd.underlying3
def sizesB (l : List ByteArray) : Bool := l.all fun s => decide (s.size ≤ 9223372036854775807)
theorem sizes_at {l : List ByteArray} (h : sizesB l = true) (k : Nat) : (l.getD k ByteArray.empty).size ≤ 9223372036854775807 := by
  rw [List.getD_eq_getElem?_getD]
  cases e : l[k]? with
  | none => decide
  | some x =>
    have hm := List.mem_of_getElem? e
    have := (List.all_eq_true.1 h) x hm
    simpa using this
def intsB (l : List Int) : Bool := l.all fun x => decide (-9223372036854775808 ≤ x) && decide (x ≤ 9223372036854775807)
theorem ints_at {l : List Int} (h : intsB l = true) (k : Nat) : -9223372036854775808 ≤ l.getD k 0 ∧ l.getD k 0 ≤ 9223372036854775807 := by
  rw [List.getD_eq_getElem?_getD]
  cases e : l[k]? with
  | none => exact ⟨by decide, by decide⟩
  | some x =>
    have hm := List.mem_of_getElem? e
    have := (List.all_eq_true.1 h) x hm
    simpa using this
theorem key_int (x : Int) (h : -9223372036854775808 ≤ x ∧ x ≤ 9223372036854775807) : keyOf Tryd.prog 3 (.int .i64 x) = some (encI x) :=
  Maps.keyOf_int_mk Tryd.underlying3 (Go.WalkArith.wf_i64 h)
theorem key_str (s : ByteArray) (h : s.size ≤ 9223372036854775807) : keyOf Tryd.prog 9 (.string s) = some (encS s) :=
  Go.WideMaps.keyOf_string_mk Tryd.underlying9 (by unfold maxLen; exact h)
/-- a map's block is no row's -/
theorem MapIs.ne_row {κ : Type} {enc : κ → Lit} {w : World} {P : Program} {k : TypeId} {b n : Nat} {f : κ → Option Value} (h : MapIs enc w P k b n f) {α : Type} {d : Kd α} {e base : Nat} {ok : Nat → Prop} {v : Value} {xs : List α} (hR : d.R e w base ok v xs) : some b ≠ v.ownBlock := by
  obtain ⟨D, ⟨es, clock, hb, _⟩, _⟩ := h
  intro hv
  obtain ⟨inner, ho⟩ := Kd.R_own hR
  obtain ⟨cells, hc⟩ := own_typed ho b hv.symm
  rw [hb] at hc
  cases hc
theorem Kd.R_off_map {κ : Type} {enc : κ → Lit} {w w1 : World} {P : Program} {k : TypeId} {b n : Nat} {f : κ → Option Value} {α : Type} {d : Kd α} {e base : Nat} {ok : Nat → Prop} {v : Value} {xs : List α} (h : d.R e w base ok v xs) (hM : MapIs enc w P k b n f) (hg : w.grownBy w1 (some b)) : d.R e w1 base ok v xs := by
  obtain ⟨D, ⟨es, clock, hb, _⟩, _⟩ := hM
  refine Kd.R_mono (Kd.R_move (Kd.R_bound h) fun k hk => ?_) (fun _ hk => hk.1)
  obtain ⟨_, _, hlt, q, _, cells, hc⟩ := hk
  refine hg.block k hlt fun e => ?_
  injection e with e
  subst e
  rw [hb] at hc; cases hc
/-- where a list first pays p, or -1 -/
def idxFrom {α : Type} (p : α → Bool) : List α → Nat → Int
  | [], _ => -1
  | x :: r, i => if p x = true then (i : Int) else idxFrom p r (i + 1)
theorem idx_any {α : Type} (p : α → Bool) : ∀ (l : List α) (i : Nat), decide (0 ≤ idxFrom p l i) = l.any p := by
  intro l
  induction l with
  | nil => intro i; rfl
  | cons x r ih =>
    intro i
    unfold idxFrom
    by_cases h : p x = true
    · rw [if_pos h, List.any_cons, h, decide_eq_true (by omega)]; rfl
    · rw [if_neg h, ih, List.any_cons, Bool.eq_false_iff.mpr h]; rfl

/-! ### strings_Builder_copyCheck: function 49 -/
theorem MapIs.same {κ : Type} {enc : κ → Lit} {w w' : World} {P : Program} {k : TypeId} {b n : Nat} {f : κ → Option Value} (h : MapIs enc w P k b n f) (e : w'.heap[b]? = w.heap[b]?) : MapIs enc w' P k b n f := by
  obtain ⟨D, ⟨es, clock, hb, r⟩, h2, h3⟩ := h
  exact ⟨D, ⟨es, clock, e.trans hb, r⟩, h2, h3⟩
/-- the builder of charset: the table's map, the strings.Builder behind it -/
theorem grown_set (w : World) (hb i : Nat) (u : Value) : w.grownBy (w.setCell ⟨hb, i, none⟩ u) (some hb) := ⟨rfl, rfl, rfl, by simp, fun k _ hk => Below.heap_setCell w ⟨hb, i, none⟩ u k (fun e => hk (by rw [e]))⟩
def PutAt (bm hb : Nat) (p : Value) (bs : List Value) (w : World) : Prop := ∃ v, w.heap[hb]? = some (.cells #[.map (some bm), p, v] 54 (0, 0)) ∧ w.ownsRow hb 5 1 v bs.length bs ∧ v.ownBlock ≠ some hb ∧ (bs = [] → v = .slice none 0 0)
def IsPut (bm hb : Nat) (bs : List Value) (w : World) : Prop := PutAt bm hb (.pointer none) bs w ∨ PutAt bm hb (.pointer (some ⟨hb, 1, none⟩)) bs w
theorem putSize : ∃ j, Tryd.prog.info? 52 = some j ∧ j.size = 2 := by
  have h : (Tryd.prog.info? 52).map (·.size) = some 2 := by kernel_rfl
  obtain ⟨j, hj, hs⟩ := Option.map_eq_some_iff.1 h
  exact ⟨j, hj, hs⟩
theorem putLies : liesAt Tryd.prog (Program.depth Tryd.prog) 54 (3 / Tryd.prog.cellsOf 54) 1 52 1 = true := by kernel_rfl
set_option maxHeartbeats 1000000 in
set_option maxRecDepth 100000 in
theorem check_used (hb : Nat) (w : World) (h0 : w.cell? ⟨hb, 1, none⟩ = some (.pointer (some ⟨hb, 1, none⟩))) :
    Calls Tryd.prog 49 #[.pointer (some ⟨hb, 1, none⟩)] w fun e w' => e = .returned (.tuple #[]) ∧ w' = w := by
  obtain ⟨j, hj, _⟩ := putSize
  go_enter Tryd.func49, Tryd.ntmps49
  go_wp2
  rw [Lib.run_neq_ptr_same w _ Tryd.underlying49 hj]
  go_wp2
  go_end0
  exact ⟨rfl, rfl⟩
set_option maxHeartbeats 1000000 in
set_option maxRecDepth 100000 in
theorem check_fresh (hb : Nat) (w : World) (h0 : w.cell? ⟨hb, 1, none⟩ = some (.pointer none)) (hsh : w.shape? hb = some (54, 3)) (hfz : w.frozen? ⟨hb, 1, none⟩ = false) :
    Calls Tryd.prog 49 #[.pointer (some ⟨hb, 1, none⟩)] w fun e w' => e = .returned (.tuple #[]) ∧ w' = w.setCell ⟨hb, 1, none⟩ (.pointer (some ⟨hb, 1, none⟩)) := by
  obtain ⟨j, hj, hjs⟩ := putSize
  go_enter Tryd.func49, Tryd.ntmps49
  go_wp2
  rw [Lib.run_to_unsafe w ⟨hb, 1, none⟩ Tryd.underlying49 Tryd.underlying103 hj (by rw [hjs]; decide) hsh (show 1 < 3 by decide)]
  simp only [Result.andThen]
  rw [Oper.upon_value]
  go_wp2
  rw [run_callFunc_extern Tryd.func62 (by kernel_rfl) (by kernel_rfl) (by kernel_rfl) (e := Extern.AbiNoEscape.same) (by kernel_rfl)]
  rw [Lib.run_noEscape]
  simp only [Result.andThen]
  rw [Oper.upon_value]
  go_wp2
  rw [Lib.run_from_unsafe w ⟨hb, 1, none⟩ Tryd.underlying103 Tryd.underlying49 hj hsh putLies]
  simp only [Result.andThen]
  rw [Oper.upon_value]
  go_wp2
  go_end0
  exact ⟨rfl, rfl⟩
theorem check_calls (bm hb : Nat) (bs : List Value) (w : World) (h : IsPut bm hb bs w) :
    Calls Tryd.prog 49 #[.pointer (some ⟨hb, 1, none⟩)] w fun e w' => e = .returned (.tuple #[]) ∧ PutAt bm hb (.pointer (some ⟨hb, 1, none⟩)) bs w' ∧ Below hb w w' ∧ Lib.OthersKept 5 (some hb) w w' := by
  rcases h with ⟨v, h1, h2, h3, h4⟩ | h
  · refine (check_fresh hb w (blk_cell h1 1) (by simp [World.shape?, h1]) (blk_frozen h1 1)).mono ?_
    rintro e w' ⟨rfl, rfl⟩
    exact ⟨rfl, ⟨v, blk_set h1 1 _, World.ownsRow.kept h2 (grown_set w hb 1 _) (.inr h3), h3, h4⟩, (Below.refl hb w).setCell (p := ⟨hb, 1, none⟩) (Nat.le_refl _) _, (Lib.OthersKept.refl _ _ w).setCell ⟨hb, 1, none⟩ rfl _⟩
  · obtain ⟨v, h1, h2, h3, h4⟩ := h
    refine (check_used hb w (blk_cell h1 1)).mono ?_
    rintro e w' ⟨rfl, rfl⟩
    exact ⟨rfl, ⟨v, h1, h2, h3, h4⟩, Below.refl _ _, Lib.OthersKept.refl _ _ _⟩

/-! ### strings_Builder_String: function 21 -/
theorem put_any {bm hb : Nat} {bs : List Value} {w : World} (h : IsPut bm hb bs w) : ∃ p, PutAt bm hb p bs w := by
  rcases h with h | h
  · exact ⟨_, h⟩
  · exact ⟨_, h⟩
set_option maxHeartbeats 2000000 in
set_option maxRecDepth 100000 in
theorem string_calls (bm hb : Nat) (l : List UInt8) (w : World) (h : IsPut bm hb (Lib.byteCells l) w) :
    Calls Tryd.prog 21 #[.pointer (some ⟨hb, 1, none⟩)] w fun e w' => e = .returned (.string ⟨l.toArray⟩) ∧ Below hb w w' := by
  obtain ⟨p, v, hbk, hown, hne, hemp⟩ := put_any h
  clear h
  by_cases h0 : l = []
  · subst h0
    obtain rfl := hemp rfl
    have hUS : (Builtin.unsafeString_ #[71, 3] 9 #[.pointer none, .int .i64 0]).run Tryd.prog w.drew = .ok (.string .empty) w.drew := Lib.run_unsafeString_none w.drew _ _ _ none
    have c1 : w.drew.cell? ⟨hb, 2, none⟩ = some (.slice none 0 0) := blk_cell (w := w.drew) hbk 2
    have hSD : (Builtin.unsafeSliceData_ #[50] 71 #[.slice none 0 0]).run Tryd.prog w.drew = .ok (.pointer none) w.drew := rfl
    go_enter Tryd.func21, Tryd.ntmps21
    go_wp2
    go_region_held3 (fun w' => w'.cell? ⟨hb, 2, none⟩ = some (.slice none 0 0))
      (first | go_keep | assumption)
      (first | (go_at_call 1000000; skip))
    all_goals (go_wp2; go_ret; exact ⟨rfl, Below.drew (Below.refl hb w)⟩)
  · have hl0 : l.length ≠ 0 := by simpa using h0
    rw [Lib.byteCells_length] at hown
    obtain ⟨g, cap, cur, rfl, hbg, hg, hnc, hcm, hcs, htake⟩ : ∃ g cap cur, v = .slice (some ⟨g, 0, none⟩) l.length cap ∧ hb ≤ g ∧ w.heap[g]? = some (.cells cur 5 (0, 0)) ∧ l.length ≤ cap ∧ cap ≤ maxLen ∧ cur.size = cap * 1 ∧ cur.toList.take (l.length * 1) = Lib.byteCells l := by
      rcases hown.2 with ⟨_, hz⟩ | ⟨g, cap, cur, hv, r⟩
      · exact absurd hz hl0
      · exact ⟨g, cap, cur, hv, r⟩
    have c1 : w.drew.cell? ⟨hb, 2, none⟩ = some (.slice (some ⟨g, 0, none⟩) l.length cap) := blk_cell (w := w.drew) hbk 2
    have hSD : (Builtin.unsafeSliceData_ #[50] 71 #[.slice (some ⟨g, 0, none⟩) l.length cap]).run Tryd.prog w.drew = .ok (.pointer (some ⟨g, 0, none⟩)) w.drew :=
      Lib.run_unsafeSliceData_row _ _ _ _ _ _ (by omega)
    have hUS : (Builtin.unsafeString_ #[71, 3] 9 #[.pointer (some ⟨g, 0, none⟩), .int .i64 l.length]).run Tryd.prog w.drew = .ok (.string ⟨l.toArray⟩) (w.drew.freeze ⟨g, 0, none⟩ l.length) := by
      refine Lib.run_unsafeString_row w.drew 71 3 9 5 Tryd.underlying71 (by kernel_rfl) g cur.size (by have hg' : w.drew.heap[g]? = some (.cells cur 5 (0, 0)) := hg; simp [World.shape?, hg']) l h0 (by omega) (by unfold maxLen at hcm; omega) ?_
      intro j x hx
      have := hown.cells (g := g) rfl j (.int .u8 x.toNat) (by simp [Lib.byteCells, hx])
      exact this
    have hgne : g ≠ hb := fun e => hne (by rw [e]; rfl)
    have hfz : (w.drew.freeze ⟨g, 0, none⟩ l.length).heap[hb]? = w.heap[hb]? := by
      unfold World.freeze
      split
      · rfl
      · simp only [Array.getElem?_modify]
        rw [if_neg hgne]; rfl
    have cF := blk_cell (hfz.trans hbk) 2
    have cF : (w.drew.freeze ⟨g, 0, none⟩ l.length).cell? ⟨hb, 2, none⟩ = some (.slice (some ⟨g, 0, none⟩) l.length cap) := cF
    clear hfz
    go_enter Tryd.func21, Tryd.ntmps21
    go_wp2
    go_region_held3 (fun w' => w'.cell? ⟨hb, 2, none⟩ = some (.slice (some ⟨g, 0, none⟩) l.length cap))
      (first | go_keep | assumption)
      (first | (go_at_call 1000000; skip))
    all_goals (go_wp2; go_ret; exact ⟨rfl, Lib.below_freeze (Below.drew (Below.refl hb w)) (p := ⟨g, 0, none⟩) hbg _⟩)

/-! ### unicodetextlaw06_few: function 4 -/
def unicodetextlaw06_few.f (l0_0 : List Int) : Option (Bool) := some (decide ((l0_0.length : Int) ≤ 300))
set_option maxHeartbeats 8000000 in
set_option maxRecDepth 100000 in
theorem unicodetextlaw06_few.calls (A0_0 : Option Addr) (c0_0 : Nat) (l0_0 : List Int) (r : Bool) (w : World) (hr0_0 : Kd.C (Kd.int .i64) w A0_0 l0_0.length l0_0) (hc0_0 : l0_0.length ≤ c0_0) (h : unicodetextlaw06_few.f l0_0 = some r) :
    Calls Tryd.prog 4 #[.agg #[.slice A0_0 l0_0.length c0_0]] w fun e w' => e = .returned (.bool r) ∧ Below w.heap.size w w' := by
  have hu24 := Tryd.underlying24
  have HR0_0 := Aside0.mk hr0_0
  have HC0_0 := Aside0.mk hc0_0
  clear hr0_0 hc0_0
  have HB := Aside0.mk (Below.refl w.heap.size w)
  have H : (some (decide ((l0_0.length : Int) ≤ 300))) = some r := h
  clear h
  obtain rfl := Option.some.inj H
  go_enter Tryd.func4, Tryd.ntmps4
  go_wp2_with (first | ((with_reducible refine gate_dst (N := 1) rfl ?_); refine box_event ?hg (N := 1) ?hd (cs := #[.slice A0_0 l0_0.length c0_0]) (t := 24) ?hr ?_; (case hd => rfl); (case hg => rfl); (case hr => first | (go_simp; done) | (go_simp; rfl)); intro gb101 hg w2 hbox hb; have n0_ := Aside0.mk (below_step (by repeat (first | (with_reducible first | exact HB.out | apply below_alloc | apply pw_below_drewN | apply below_drew1) | exact HB.out)) hb); have n1_ := Aside0.mk (hbox); have n2_ := Aside0.mk ((by rw [hg]; exact (below_size (by repeat (first | (with_reducible first | exact HB.out | apply below_alloc | apply pw_below_drewN | apply below_drew1) | exact HB.out))) : w.heap.size ≤ gb101)); have n3_ := Aside0.mk ((by rw [hg]; exact (below_size (by repeat (first | (with_reducible first | exact HB.out | apply below_alloc | apply pw_below_drewN | apply below_drew1) | exact HB.out))) : w.heap.size ≤ gb101)); clear HB; have HB := n0_; have BK101 := n1_; have GW101 := n2_; have GE101 := n3_; clear n0_ n1_ n2_ n3_; clear hb hbox hg; have hcz3_0 : w2.cell? ⟨gb101, 0, none⟩ = some (.slice A0_0 l0_0.length c0_0) := (blk_cell BK101.out 0).trans rfl; have hfz3_0 := blk_frozen BK101.out 0))
  go_ret
  exact ⟨by first | rfl | (simp [errW_none, errW_some] <;> rfl) | (simp [*, errW_none, errW_some] <;> rfl), by repeat (first | (with_reducible first | exact HB.out | apply below_alloc | apply pw_below_drewN | apply below_drew1 | refine below_set ?_ GE101.out) | exact HB.out)⟩

/-! ### codepoint_Valid: function 30 -/
def codepoint_Valid.f (a0 : Int) : Option (Bool) := if a0 ≥ 0 then (some (decide (a0 ≤ 1114111))) else (some false)
set_option maxHeartbeats 8000000 in
set_option maxRecDepth 100000 in
theorem codepoint_Valid.calls (a0 : Int) (r : Bool) (w : World) (h : codepoint_Valid.f a0 = some r) :
    Calls Tryd.prog 30 #[.int .i64 a0] w fun e w' => e = .returned (.bool r) ∧ Drawn0 w w' := by
  have H : (if a0 ≥ 0 then (some (decide (a0 ≤ 1114111))) else (some false)) = some r := h
  clear h
  by_cases c2 : a0 ≥ 0
  · rw [if_pos c2] at H
    have c2b0 : decide (0 ≤ a0) = true := decide_eq_true c2
    clear c2
    obtain rfl := Option.some.inj H
    go_enter Tryd.func30, Tryd.ntmps30
    go_wp2
    go_ret
    exact ⟨by first | rfl | (simp; done) | (simp [*]; done), by repeat (first | exact Drawn0.refl _ | apply Drawn0.step)⟩
  · rw [if_neg c2] at H
    have c2b0 : decide (0 ≤ a0) = false := decide_eq_false c2
    clear c2
    obtain rfl := Option.some.inj H
    go_enter Tryd.func30, Tryd.ntmps30
    go_wp2
    go_ret
    exact ⟨by first | rfl | (simp; done) | (simp [*]; done), by repeat (first | exact Drawn0.refl _ | apply Drawn0.step)⟩

/-! ### codepoint_Surrogate: function 37 -/
def codepoint_Surrogate.f (a0 : Int) : Option (Bool) := if a0 ≥ 55296 then (some (decide (a0 ≤ 57343))) else (some false)
set_option maxHeartbeats 8000000 in
set_option maxRecDepth 100000 in
theorem codepoint_Surrogate.calls (a0 : Int) (r : Bool) (w : World) (h : codepoint_Surrogate.f a0 = some r) :
    Calls Tryd.prog 37 #[.int .i64 a0] w fun e w' => e = .returned (.bool r) ∧ Drawn0 w w' := by
  have H : (if a0 ≥ 55296 then (some (decide (a0 ≤ 57343))) else (some false)) = some r := h
  clear h
  by_cases c2 : a0 ≥ 55296
  · rw [if_pos c2] at H
    have c2b0 : decide (55296 ≤ a0) = true := decide_eq_true c2
    clear c2
    obtain rfl := Option.some.inj H
    go_enter Tryd.func37, Tryd.ntmps37
    go_wp2
    go_ret
    exact ⟨by first | rfl | (simp; done) | (simp [*]; done), by repeat (first | exact Drawn0.refl _ | apply Drawn0.step)⟩
  · rw [if_neg c2] at H
    have c2b0 : decide (55296 ≤ a0) = false := decide_eq_false c2
    clear c2
    obtain rfl := Option.some.inj H
    go_enter Tryd.func37, Tryd.ntmps37
    go_wp2
    go_ret
    exact ⟨by first | rfl | (simp; done) | (simp [*]; done), by repeat (first | exact Drawn0.refl _ | apply Drawn0.step)⟩

/-! ### codepoint_Scalar: function 26 -/
def codepoint_Scalar.f (a0 : Int) : Option (Bool) := (codepoint_Valid.f a0).bind fun t102 => (if t102 = true then ((codepoint_Surrogate.f a0).bind fun t103 => (some (!t103))) else (some false))
set_option maxHeartbeats 8000000 in
set_option maxRecDepth 100000 in
theorem codepoint_Scalar.calls (a0 : Int) (r : Bool) (w : World) (h : codepoint_Scalar.f a0 = some r) :
    Calls Tryd.prog 26 #[.int .i64 a0] w fun e w' => e = .returned (.bool r) ∧ Drawn0 w w' := by
  have H : ((codepoint_Valid.f a0).bind fun t102 => (if t102 = true then ((codepoint_Surrogate.f a0).bind fun t103 => (some (!t103))) else (some false))) = some r := h
  clear h
  replace H := Option.bind_eq_some_iff.mp H
  obtain ⟨t102, A20, H⟩ := H
  replace H : (if t102 = true then ((codepoint_Surrogate.f a0).bind fun t103 => (some (!t103))) else (some false)) = some r := H
  have A2 := Aside0.mk A20
  clear A20
  by_cases c3 : t102 = true
  · subst c3
    have H1 : ((codepoint_Surrogate.f a0).bind fun t103 => (some (!t103))) = some r := by rw [if_pos rfl] at H; exact H
    clear H
    have H := H1
    clear H1
    replace H := Option.bind_eq_some_iff.mp H
    obtain ⟨t103, A40, H⟩ := H
    replace H : (some (!t103)) = some r := H
    have A4 := Aside0.mk A40
    clear A40
    obtain rfl := Option.some.inj H
    go_enter Tryd.func26, Tryd.ntmps26
    go_wp2_with (first | ((with_reducible refine gate_callee (f := 30) rfl ?_); refine goesL_ (some 4) rfl rfl Tryd.func30 (by kernel_rfl) rfl #[.int .i64 a0] rfl (by (try simp only [List.map_toArray, List.map_cons, List.map_nil]); first | done | rfl | (simp only [List.length_drop, List.length_take]; rfl)) ?_; (with_reducible refine (codepoint_Valid.calls a0 true _ A2.out).mono ?_); rintro e w' ⟨rfl, ⟨nd, rfl⟩⟩; refine ⟨_, rfl, ?_⟩) | (go_at_call 37; (with_reducible refine (codepoint_Surrogate.calls a0 t103 _ A4.out).mono ?_); rintro e w' ⟨rfl, ⟨nd, rfl⟩⟩))
    go_ret
    exact ⟨by first | rfl | (simp; done) | (simp [*]; done), by repeat (first | exact Drawn0.refl _ | apply Drawn0.step)⟩
  · replace c3 := Bool.eq_false_iff.mpr c3
    subst c3
    have H1 : (some false) = some r := by rw [if_neg (show ¬ (false = true) by decide)] at H; exact H
    clear H
    have H := H1
    clear H1
    obtain rfl := Option.some.inj H
    go_enter Tryd.func26, Tryd.ntmps26
    go_wp2_with (first | ((with_reducible refine gate_callee (f := 30) rfl ?_); refine goesL_ (some 4) rfl rfl Tryd.func30 (by kernel_rfl) rfl #[.int .i64 a0] rfl (by (try simp only [List.map_toArray, List.map_cons, List.map_nil]); first | done | rfl | (simp only [List.length_drop, List.length_take]; rfl)) ?_; (with_reducible refine (codepoint_Valid.calls a0 false _ A2.out).mono ?_); rintro e w' ⟨rfl, ⟨nd, rfl⟩⟩; refine ⟨_, rfl, ?_⟩))
    go_ret
    exact ⟨by first | rfl | (simp; done) | (simp [*]; done), by repeat (first | exact Drawn0.refl _ | apply Drawn0.step)⟩

/-! ### charset_Check: function 12 -/
def scalarB (x : Int) : Bool := decide (0 ≤ x) && decide (x ≤ 1114111) && !(decide (55296 ≤ x) && decide (x ≤ 57343))
def dupI : List Int → List Int → Bool
  | _, [] => false
  | seen, x :: r => (!decide (x = -1) && seen.any fun y => decide (y = x)) || dupI (seen ++ [x]) r
def badI (x : Int) : Bool := !decide (x = -1) && !scalarB x
def checkB (l : List Int) : Int := if l.length = 256 then (if l.any badI = true then 1 else if dupI [] l = true then 5 else 0) else 2
theorem scalar_f (x : Int) : codepoint_Scalar.f x = some (scalarB x) := by
  unfold codepoint_Scalar.f codepoint_Valid.f codepoint_Surrogate.f scalarB
  by_cases h1 : x ≥ 0 <;> by_cases h2 : x ≤ 1114111 <;> by_cases h3 : x ≥ 55296 <;> by_cases h4 : x ≤ 57343 <;> simp [h1, h2, h3, h4]
theorem take_at (l : List Int) (k : Nat) (h : k < l.length) : l.take (k + 1) = l.take k ++ [l.getD k 0] := by
  rw [List.take_succ_eq_append_getElem h, List.getD_eq_getElem?_getD, List.getElem?_eq_getElem h]; rfl
theorem reti {k : IntKind} {a b : Int} (h : a = b) : Ending.returned (.int k a) = .returned (.int k b) := by rw [h]
theorem any_snoc (l : List Int) (x y : Int) : ((l ++ [x]).any fun z => decide (z = y)) = ((l.any fun z => decide (z = y)) || decide (x = y)) := by rw [List.any_append]; simp
def charset_Check.f (l0_0 : List Int) : Option Int := if intsB l0_0 = true then some (checkB l0_0) else none
set_option maxHeartbeats 1600000 in
set_option maxRecDepth 100000 in
theorem charset_Check.calls (A0_0 : Option Addr) (c0_0 : Nat) (l0_0 : List Int) (r : Int) (w : World) (hr0_0 : Kd.C (Kd.int .i64) w A0_0 l0_0.length l0_0) (hc0_0 : l0_0.length ≤ c0_0) (h : charset_Check.f l0_0 = some r) :
    Calls Tryd.prog 12 #[.agg #[.slice A0_0 l0_0.length c0_0]] w fun e w' => e = .returned (.int .i64 r) ∧ Below w.heap.size w w' := by
  unfold charset_Check.f at h
  by_cases hz : intsB l0_0 = true
  case neg => rw [if_neg hz] at h; cases h
  rw [if_pos hz] at h
  obtain rfl := Option.some.inj h
  have R0 := Aside0.mk hr0_0
  have HZ := Aside0.mk hz
  clear h hr0_0 hz
  have hmm := @run_makeMap Tryd.prog
  by_cases hl : l0_0.length = 256
  case neg =>
    have hr : checkB l0_0 = 2 := by unfold checkB; rw [if_neg hl]
    have HR := Aside0.mk hr
    clear hr
    go_enter Tryd.func12, Tryd.ntmps12
    go_wp2
    go_ret
    exact ⟨reti HR.out.symm, (Below.refl _ _).alloc (Nat.le_refl _) _⟩
  rw [hl] at R0 hc0_0 ⊢
  have HL := Aside0.mk hl
  clear hl
  go_enter Tryd.func12, Tryd.ntmps12
  go_wp2
  go_loopw [15] (fun i wr => ∃ (k : Nat), k ≤ 256 ∧ i = .int .i64 k ∧ Aside0 ((l0_0.take k).any badI = false) ∧ Aside0 (wr.cell? ⟨w.heap.size, 0, none⟩ = some (.slice A0_0 256 c0_0)) ∧ Aside0 (Below w.heap.size w wr)) (fun i _ => 256 - (intOf i).toNat)
  case atStart => exact ⟨0, Nat.zero_le _, rfl, ⟨by rw [List.take_zero]; rfl⟩, ⟨by simp⟩, ⟨below_alloc (Below.refl _ _) _⟩⟩
  case round =>
    obtain ⟨k, hk, rfl, hF, hD, hB⟩ := hrel
    by_cases hlt : k < 256
    · obtain ⟨ad, e, x0⟩ := Kd.at_int (Kd.C_below R0.out hB.out) (k : Int) (by omega) (by omega)
      cases e
      obtain ⟨x, hx⟩ : ∃ x, x = rd l0_0 (k : Int) := ⟨_, rfl⟩
      rw [← hx, show ((k : Int)).toNat = k from rfl] at x0
      have htake : Aside0 (l0_0.take (k + 1) = l0_0.take k ++ [x]) := ⟨by rw [hx]; exact take_at l0_0 k (by rw [HL.out]; exact hlt)⟩
      have hmem : Aside0 (x ∈ l0_0) := ⟨by rw [hx, rd_nat, List.getD_eq_getElem?_getD, List.getElem?_eq_getElem (by rw [HL.out]; exact hlt)]; exact List.getElem_mem _⟩
      clear hx
      have hsc := Aside0.mk (scalar_f x)
      by_cases hn : x = -1
      · go_wp2
        go_roundw
        case rel =>
          refine ⟨k + 1, by omega, by go_num, ⟨?_⟩, hD, hB⟩
          rw [htake.out, List.any_append, hF.out]; unfold badI; simp [hn]
        case measure => simp [intOf]; omega
      · cases hs : scalarB x with
        | true =>
          rw [hs] at hsc
          go_wp2_with (go_at_call 26; refine (codepoint_Scalar.calls _ _ _ hsc.out).mono ?_; rintro e w1 ⟨rfl, hd⟩; have hb := hd.below; clear hd)
          go_roundw
          case rel =>
            refine ⟨k + 1, by omega, by go_num, ⟨?_⟩, ⟨pw_cell_below hb hD.out⟩, ⟨hB.out.trans (hb.mono hB.out.size)⟩⟩
            rw [htake.out, List.any_append, hF.out]; unfold badI; simp [hs]
          case measure => simp [intOf]; omega
        | false =>
          rw [hs] at hsc
          have hr : Aside0 (checkB l0_0 = 1) := ⟨by
            unfold checkB
            rw [if_pos HL.out, if_pos (List.any_eq_true.2 ⟨x, hmem.out, by unfold badI; rw [hs, decide_eq_false hn]; rfl⟩)]⟩
          go_wp2_with (go_at_call 26; refine (codepoint_Scalar.calls _ _ _ hsc.out).mono ?_; rintro e w1 ⟨rfl, hd⟩; have hb := hd.below; clear hd)
          go_ret
          exact ⟨reti hr.out.symm, hB.out.trans (hb.mono hB.out.size)⟩
    · have hbad : Aside0 (l0_0.any badI = false) := ⟨by have := hF.out; rwa [List.take_of_length_le (by rw [HL.out]; omega)] at this⟩
      have d0 := pw_cell_below (below_alloc (Below.refl wr.heap.size wr) (.map #[] 0)) hD.out
      go_wp2
      have HB := Aside0.mk (below_alloc hB.out (.map #[] 0))
      have hne : w.heap.size ≤ wr.heap.size := hB.out.size
      obtain ⟨wo, hwo⟩ : ∃ wo, wo = wr := ⟨_, rfl⟩
      subst hwo
      go_loopw [31] (fun i w2 => ∃ (k : Nat) (f : Int → Option Value), k ≤ 256 ∧ i = .int .i64 k ∧ Aside0 (MapIs encI w2 Tryd.prog 3 wo.heap.size k f) ∧ Aside0 (∀ x, f x = if ((l0_0.take k).any fun y => decide (y = x)) = true then some (.bool true) else none) ∧ Aside0 (dupI (l0_0.take k) (l0_0.drop k) = dupI [] l0_0) ∧ Aside0 (Below w.heap.size w w2)) (fun i _ => 256 - (intOf i).toNat)
      case atStart => exact ⟨0, fun _ => none, Nat.zero_le _, rfl, ⟨MapIs.made wo Tryd.prog 3⟩, ⟨fun _ => rfl⟩, ⟨rfl⟩, HB⟩
      case round =>
        obtain ⟨k, f, hk, rfl, hM, hF, hdup, hB2⟩ := hrel
        by_cases hlt : k < 256
        · obtain ⟨ad, e, x0⟩ := Kd.at_int (Kd.C_below R0.out hB2.out) (k : Int) (by omega) (by omega)
          cases e
          obtain ⟨x, hx⟩ : ∃ x, x = rd l0_0 (k : Int) := ⟨_, rfl⟩
          rw [← hx, show ((k : Int)).toNat = k from rfl] at x0
          have htake : Aside0 (l0_0.take (k + 1) = l0_0.take k ++ [x]) := ⟨by rw [hx]; exact take_at l0_0 k (by rw [HL.out]; exact hlt)⟩
          have hdrop : Aside0 (l0_0.drop k = x :: l0_0.drop (k + 1)) := ⟨by rw [hx]; exact drop_at l0_0 0 k (by rw [HL.out]; exact hlt)⟩
          have hwf : -9223372036854775808 ≤ x ∧ x ≤ 9223372036854775807 := by rw [hx]; exact ints_at HZ.out k
          have HK := Aside0.mk (key_int x hwf)
          clear hx hwf
          have hstep : dupI (l0_0.take k) (l0_0.drop k) = ((!decide (x = -1) && (l0_0.take k).any fun y => decide (y = x)) || dupI (l0_0.take (k + 1)) (l0_0.drop (k + 1))) := by rw [hdrop.out, htake.out, dupI]
          have HS := Aside0.mk hstep
          clear hstep
          by_cases hn : x = -1
          · subst hn
            go_wp2_with (at_mapUpdate; refine wpList_mapis_upd _ rfl _ _ _ 58 rfl 3 4 law_int Tryd.underlying58 wo.heap.size k f rfl hM.out encI_inj (by unfold maxLen; omega) _ _ (-1) rfl rfl HK.out (encI_key (-1)) ?_; intro w3 hM2 hg2)
            go_roundw
            case rel =>
              refine ⟨k + 1, _, by omega, by go_num, ⟨hM2⟩, ⟨fun y => ?_⟩, ⟨?_⟩, ⟨hB2.out.grown hg2 hB2.out.size (fun j hj => by cases hj; exact hne)⟩⟩
              · rw [htake.out, any_snoc]
                by_cases hy : y = -1
                · subst hy; rw [if_pos rfl, decide_eq_true rfl, Bool.or_true, if_pos rfl]; rfl
                · rw [if_neg hy, decide_eq_false (fun e => hy e.symm), Bool.or_false]; exact hF.out y
              · rw [← hdup.out, HS.out, decide_eq_true rfl]; simp
            case measure => simp [intOf]; omega
          · cases hin : (l0_0.take k).any fun y => decide (y = x) with
            | true =>
              have hfx : f x = some (.bool true) := by rw [hF.out x, hin, if_pos rfl]
              have hr : Aside0 (checkB l0_0 = 5) := ⟨by
                unfold checkB
                rw [if_pos HL.out, hbad.out, if_neg (by decide), if_pos]
                rw [← hdup.out, HS.out, decide_eq_false hn, hin]; rfl⟩
              have hlk := hM.out.look law_int Tryd.underlying58 (zero_bool _) HK.out
              rw [hfx, Option.getD_some] at hlk
              go_wp2
              go_ret
              exact ⟨reti hr.out.symm, hB2.out⟩
            | false =>
              have hfx : f x = none := by rw [hF.out x, hin, if_neg (by decide)]
              have HIN := Aside0.mk hin
              clear hin
              have hlk := hM.out.look law_int Tryd.underlying58 (zero_bool _) HK.out
              rw [hfx, Option.getD_none] at hlk
              go_wp2_with (first | (at_mapUpdate; refine wpList_mapis_upd _ rfl _ _ _ 58 rfl 3 4 law_int Tryd.underlying58 wo.heap.size k f rfl hM.out encI_inj (by unfold maxLen; omega) _ _ x rfl rfl HK.out (encI_key x) ?_; intro w3 hM2 hg2))
              go_roundw
              case rel =>
                refine ⟨k + 1, _, by omega, by go_num, ⟨hM2⟩, ⟨fun y => ?_⟩, ⟨?_⟩, ⟨hB2.out.grown hg2 hB2.out.size (fun j hj => by cases hj; exact hne)⟩⟩
                · rw [htake.out, any_snoc]
                  by_cases hy : y = x
                  · subst hy; rw [if_pos rfl, decide_eq_true rfl, Bool.or_true, if_pos rfl]; rfl
                  · rw [if_neg hy, decide_eq_false (fun e => hy e.symm), Bool.or_false]; exact hF.out y
                · rw [← hdup.out, HS.out, HIN.out, Bool.and_false, Bool.false_or]
              case measure => simp [intOf]; omega
        · obtain rfl : k = 256 := by omega
          have hr : Aside0 (checkB l0_0 = 0) := ⟨by
            unfold checkB
            rw [if_pos HL.out, hbad.out, if_neg (by decide), if_neg]
            rw [← hdup.out, List.drop_of_length_le (by rw [HL.out]; omega), dupI]; decide⟩
          go_wp2
          go_ret
          exact ⟨reti hr.out.symm, hB2.out⟩

/-! ### codepoint_Hex: function 20 -/
def dgU (x : Int) : UInt8 := UInt8.ofNat (if x < 10 then 48 + x.toNat else 55 + x.toNat)
def hexL : Nat → Int → List UInt8 → List UInt8
  | 0, _, acc => acc
  | k + 1, c, acc => if acc.length < 4 ∨ 0 < c then hexL k (c / 16) (dgU (c % 16) :: acc) else acc
def hexB (c : Int) : ByteArray := if 0 ≤ c ∧ c ≤ 1114111 then ⟨(hexL 7 c []).toArray⟩ else ⟨#[]⟩
theorem all16 {p : Nat → Prop} (h0 : p 0) (h1 : p 1) (h2 : p 2) (h3 : p 3) (h4 : p 4) (h5 : p 5) (h6 : p 6) (h7 : p 7) (h8 : p 8) (h9 : p 9) (h10 : p 10) (h11 : p 11) (h12 : p 12) (h13 : p 13) (h14 : p 14) (h15 : p 15) : ∀ i, i < 16 → p i := by
  intro i hi
  match i, hi with
  | 0, _ => exact h0
  | 1, _ => exact h1
  | 2, _ => exact h2
  | 3, _ => exact h3
  | 4, _ => exact h4
  | 5, _ => exact h5
  | 6, _ => exact h6
  | 7, _ => exact h7
  | 8, _ => exact h8
  | 9, _ => exact h9
  | 10, _ => exact h10
  | 11, _ => exact h11
  | 12, _ => exact h12
  | 13, _ => exact h13
  | 14, _ => exact h14
  | 15, _ => exact h15
  | i + 16, hi => exact absurd hi (by omega)
theorem all6 {p : Nat → Prop} (h0 : p 0) (h1 : p 1) (h2 : p 2) (h3 : p 3) (h4 : p 4) (h5 : p 5) : ∀ i, i < 6 → p i := by
  intro i hi
  match i, hi with
  | 0, _ => exact h0
  | 1, _ => exact h1
  | 2, _ => exact h2
  | 3, _ => exact h3
  | 4, _ => exact h4
  | 5, _ => exact h5
  | i + 6, hi => exact absurd hi (by omega)
theorem and15 (n : Int) : bits .and .i64 n 15 = n % 16 := by
  have h15 : (BitVec.ofInt 64 15).toNat = 2 ^ 4 - 1 := by decide
  have key : (BitVec.ofInt 64 n &&& BitVec.ofInt 64 15).toNat = (n % ((2 ^ 64 : Nat) : Int)).toNat % 2 ^ 4 := by
    rw [BitVec.toNat_and, BitVec.toNat_ofInt, h15, Nat.and_two_pow_sub_one_eq_mod]
  show IntKind.i64.wrap ((BitVec.ofInt 64 n &&& BitVec.ofInt 64 15).toNat : Nat) = n % 16
  rw [key, IntKind.wrap_i64]
  omega
theorem valid_f (x : Int) : codepoint_Valid.f x = some (decide (0 ≤ x) && decide (x ≤ 1114111)) := by
  unfold codepoint_Valid.f
  by_cases h1 : x ≥ 0 <;> by_cases h2 : x ≤ 1114111 <;> simp [h1, h2]
theorem addA (b n j : Nat) : (⟨b, n, none⟩ : Addr).add j = ⟨b, n + j, none⟩ := by
  simp only [Addr.add]
  try (split <;> simp_all)
theorem rets {a b : ByteArray} (h : a = b) : Ending.returned (.string a) = .returned (.string b) := by rw [h]
def codepoint_Hex.f (a0 : Int) : Option ByteArray := some (hexB a0)
set_option maxHeartbeats 1600000 in
set_option maxRecDepth 100000 in
theorem codepoint_Hex.calls (a0 : Int) (r : ByteArray) (w : World) (h : codepoint_Hex.f a0 = some r) :
    Calls Tryd.prog 20 #[.int .i64 a0] w fun e w' => e = .returned (.string r) ∧ Below w.heap.size w w' := by
  unfold codepoint_Hex.f at h
  obtain rfl := Option.some.inj h
  clear h
  have HV := Aside0.mk (valid_f a0)
  go_enter Tryd.func20, Tryd.ntmps20
  by_cases hv : 0 ≤ a0 ∧ a0 ≤ 1114111
  case neg =>
    have hv2 : (decide (0 ≤ a0) && decide (a0 ≤ 1114111)) = false := by
      rw [Bool.and_eq_false_iff, decide_eq_false_iff_not, decide_eq_false_iff_not]; omega
    rw [hv2] at HV
    have HR : Aside0 (hexB a0 = ⟨#[]⟩) := ⟨by unfold hexB; rw [if_neg hv]⟩
    clear hv2
    go_wp2_with (go_at_call 30; refine (codepoint_Valid.calls _ _ _ HV.out).mono ?_; rintro e w1 ⟨rfl, hd⟩; have hb := hd.below; clear hd)
    go_ret
    exact ⟨rets HR.out.symm, hb⟩
  have hv2 : (decide (0 ≤ a0) && decide (a0 ≤ 1114111)) = true := by
    rw [decide_eq_true hv.1, decide_eq_true hv.2]; rfl
  rw [hv2] at HV
  have HR : Aside0 (hexB a0 = ⟨(hexL 7 a0 []).toArray⟩) := ⟨by unfold hexB; rw [if_pos hv]⟩
  have HV0 := Aside0.mk hv
  clear hv2 hv
  go_wp2_with (go_at_call 30; refine (codepoint_Valid.calls _ _ _ HV.out).mono ?_; rintro e w1 ⟨rfl, hd⟩; have hb := hd.below; clear hd)
  have HB1 := Aside0.mk hb
  have hbs := hb.size
  clear hb
  go_loopw [0, 5] (fun c i wr => ∃ (x : Int) (acc : List UInt8) (n : Nat), acc.length + n = 6 ∧ c = .int .i64 x ∧ i = .int .i64 n ∧ 0 ≤ x ∧ x ≤ 1114111 ∧ Aside0 (x < 16 ^ n) ∧ Aside0 (hexL (n + 1) x acc = hexL 7 a0 []) ∧ Aside0 (∀ i, i < 16 → wr.cell? ⟨w1.heap.size, i, none⟩ = some (.int .u8 ((dgU i).toNat : Nat))) ∧ Aside0 (∀ i, i < 6 → wr.cell? ⟨w1.heap.size + 1, i, none⟩ = some (.int .u8 (if i < n then 0 else ((acc.getD (i - n) 0).toNat : Int)))) ∧ Aside0 (∀ i, wr.frozen? ⟨w1.heap.size + 1, i, none⟩ = false) ∧ Aside0 (Below w.heap.size w wr)) (fun _ i _ => (intOf i).toNat)
  case atStart =>
    refine ⟨a0, [], 6, rfl, rfl, rfl, HV0.out.1, HV0.out.2, ⟨?_⟩, ⟨rfl⟩, ⟨?_⟩, ⟨?_⟩, ⟨fun i => by simp⟩, ⟨?_⟩⟩
    · have := HV0.out; have e : (16 : Int) ^ 6 = 16777216 := by decide
      omega
    · refine all16 ?_ ?_ ?_ ?_ ?_ ?_ ?_ ?_ ?_ ?_ ?_ ?_ ?_ ?_ ?_ ?_ <;> (simp; try rfl)
    · refine all6 ?_ ?_ ?_ ?_ ?_ ?_ <;> simp
    · exact below_alloc (below_alloc HB1.out _) _
  case round =>
    obtain ⟨x, acc, n, hn, rfl, rfl, hx0, hx1, hP, hL, HD, HA, HF, hB⟩ := hrel
    by_cases h1 : 0 < x
    · have hn0 : 0 < n := by
        rcases Nat.eq_zero_or_pos n with e | e
        · have := hP.out; rw [e] at this; omega
        · exact e
      obtain ⟨m, rfl⟩ : ∃ m, n = m + 1 := ⟨n - 1, by omega⟩
      obtain ⟨q, hqe⟩ : ∃ q : Nat, x % 16 = (q : Int) := ⟨(x % 16).toNat, by omega⟩
      have HQ := Aside0.mk hqe
      have hq16 : q < 16 := by omega
      have e1 : bits .and .i64 x 15 = (q : Int) := by rw [and15]; exact hqe
      have d0 := HD.out q (by omega)
      have b0 := HA.out m (by omega)
      have f0 := HF.out m
      rw [if_pos (by omega)] at b0
      have hgo : Aside0 (acc.length < 4 ∨ 0 < x) := ⟨by omega⟩
      clear hqe
      go_wp2
      go_roundw
      case rel =>
        refine ⟨x / 16, dgU (q : Int) :: acc, m, by rw [List.length_cons]; omega, by go_num, by go_num, by omega, by omega, ⟨?_⟩, ⟨?_⟩, ⟨fun i hi => ?_⟩, ⟨fun i hi => ?_⟩, ⟨fun i => ?_⟩, ⟨?_⟩⟩
        · have := hP.out; rw [Int.pow_succ] at this; omega
        · rw [← hL.out, ← HQ.out]; conv => rhs; rw [hexL, if_pos hgo.out]
        · rw [World.cell?_setCell_other _ _ _ _ (by intro e; injection e with e; omega)]; exact HD.out i hi
        · by_cases e : i = m
          · subst e; rw [World.cell?_setCell_same _ _ _ b0, if_neg (by omega), Nat.sub_self]; rfl
          · rw [World.cell?_setCell_other _ _ _ _ (by intro e2; injection e2 with e2 e3; omega), HA.out i hi]
            by_cases e3 : i < m
            · rw [if_pos (by omega), if_pos e3]
            · rw [if_neg (by omega), if_neg e3, show i - m = (i - (m + 1)) + 1 from by omega, List.getD_cons_succ]
        · rw [World.frozen?_setCell]; exact HF.out i
        · exact hB.out.setCell (by show w.heap.size ≤ w1.heap.size + 1; omega) _
      case measure => first | (simp [intOf]; done) | (simp [intOf]; omega)
    · by_cases h2 : 2 < n
      · have hn0 : 0 < n := by omega
        obtain ⟨m, rfl⟩ : ∃ m, n = m + 1 := ⟨n - 1, by omega⟩
        obtain ⟨q, hqe⟩ : ∃ q : Nat, x % 16 = (q : Int) := ⟨(x % 16).toNat, by omega⟩
        have HQ := Aside0.mk hqe
        have hq16 : q < 16 := by omega
        have e1 : bits .and .i64 x 15 = (q : Int) := by rw [and15]; exact hqe
        have d0 := HD.out q (by omega)
        have b0 := HA.out m (by omega)
        have f0 := HF.out m
        rw [if_pos (by omega)] at b0
        have hgo : Aside0 (acc.length < 4 ∨ 0 < x) := ⟨by omega⟩
        clear hqe
        go_wp2
        go_roundw
        case rel =>
          refine ⟨x / 16, dgU (q : Int) :: acc, m, by rw [List.length_cons]; omega, by go_num, by go_num, by omega, by omega, ⟨?_⟩, ⟨?_⟩, ⟨fun i hi => ?_⟩, ⟨fun i hi => ?_⟩, ⟨fun i => ?_⟩, ⟨?_⟩⟩
          · have := hP.out; rw [Int.pow_succ] at this; omega
          · rw [← hL.out, ← HQ.out]; conv => rhs; rw [hexL, if_pos hgo.out]
          · rw [World.cell?_setCell_other _ _ _ _ (by intro e; injection e with e; omega)]; exact HD.out i hi
          · by_cases e : i = m
            · subst e; rw [World.cell?_setCell_same _ _ _ b0, if_neg (by omega), Nat.sub_self]; rfl
            · rw [World.cell?_setCell_other _ _ _ _ (by intro e2; injection e2 with e2 e3; omega), HA.out i hi]
              by_cases e3 : i < m
              · rw [if_pos (by omega), if_pos e3]
              · rw [if_neg (by omega), if_neg e3, show i - m = (i - (m + 1)) + 1 from by omega, List.getD_cons_succ]
          · rw [World.frozen?_setCell]; exact HF.out i
          · exact hB.out.setCell (by show w.heap.size ≤ w1.heap.size + 1; omega) _
        case measure => first | (simp [intOf]; done) | (simp [intOf]; omega)
      · have hfin : Aside0 (hexB a0 = ⟨acc.toArray⟩) := ⟨by
          rw [HR.out, ← hL.out, hexL, if_neg (by omega)]⟩
        have hcv := Aside0.mk (run_convert_bytes_back (P := Tryd.prog) wr 50 9 5 ⟨w1.heap.size + 1, n, none⟩ acc.length acc Tryd.underlying50 Tryd.underlying5 Tryd.underlying9 (fun j hj => by
          rw [addA, HA.out (n + j) (by omega), if_neg (by omega), show n + j - n = j from by omega, List.getD_eq_getElem?_getD, List.getElem?_eq_getElem hj]; rfl))
        have hal : Program.arrayLen Tryd.prog 70 = 6 := by kernel_rfl
        have hel : Program.elem Tryd.prog 70 = 5 := by kernel_rfl
        have hsl : (Instr.sliceAt 70 (.pointer (some ⟨w1.heap.size + 1, 0, none⟩)) (some (.int .i64 (n : Int))) none none).run Tryd.prog wr = .ok (.slice (some ⟨w1.heap.size + 1, n, none⟩) acc.length acc.length) wr := by
          have hsz : (sizeOf 5).run Tryd.prog wr = .ok 1 wr := by kernel_rfl
          rw [run_sliceAt_array_l wr 70 _ (by rw [hal, hel]; exact Tryd.underlying70) .i64 n (by omega) (by rw [hal]; omega), hel, hsz, hal]
          show Result.ok (slicedAt _ n 6 6 1) wr = _
          unfold slicedAt
          rw [if_neg (by omega), show 6 - n = acc.length from by omega, Nat.mul_one]
          rw [addA, Nat.zero_add]
        have hcv2 := hcv.out
        clear hal hel
        go_wp2
        go_ret
        exact ⟨rets hfin.out.symm, hB.out⟩

/-! ### bits_Mul64: function 51 -/
def bits_Mul64.f (a0 : Int) (a1 : Int) : Option (Int × Int) := some (IntKind.u64.wrap ((IntKind.u64.wrap ((IntKind.u64.wrap ((a0 / 4294967296) * (a1 / 4294967296))) + ((IntKind.u64.wrap ((IntKind.u64.wrap ((a0 / 4294967296) * (Go.bits .and .u64 a1 4294967295))) + ((IntKind.u64.wrap ((Go.bits .and .u64 a0 4294967295) * (Go.bits .and .u64 a1 4294967295))) / 4294967296))) / 4294967296))) + ((IntKind.u64.wrap ((Go.bits .and .u64 (IntKind.u64.wrap ((IntKind.u64.wrap ((a0 / 4294967296) * (Go.bits .and .u64 a1 4294967295))) + ((IntKind.u64.wrap ((Go.bits .and .u64 a0 4294967295) * (Go.bits .and .u64 a1 4294967295))) / 4294967296))) 4294967295) + (IntKind.u64.wrap ((Go.bits .and .u64 a0 4294967295) * (a1 / 4294967296))))) / 4294967296)), IntKind.u64.wrap (a0 * a1))
set_option maxHeartbeats 8000000 in
set_option maxRecDepth 100000 in
theorem bits_Mul64.calls (a0 : Int) (a1 : Int) (r1 : Int) (r2 : Int) (w : World) (h : bits_Mul64.f a0 a1 = some (r1, r2)) :
    Calls Tryd.prog 51 #[.int .u64 a0, .int .u64 a1] w fun e w' => e = .returned (.tuple #[.int .u64 r1, .int .u64 r2]) ∧ Drawn0 w w' := by
  have H : (some (IntKind.u64.wrap ((IntKind.u64.wrap ((IntKind.u64.wrap ((a0 / 4294967296) * (a1 / 4294967296))) + ((IntKind.u64.wrap ((IntKind.u64.wrap ((a0 / 4294967296) * (Go.bits .and .u64 a1 4294967295))) + ((IntKind.u64.wrap ((Go.bits .and .u64 a0 4294967295) * (Go.bits .and .u64 a1 4294967295))) / 4294967296))) / 4294967296))) + ((IntKind.u64.wrap ((Go.bits .and .u64 (IntKind.u64.wrap ((IntKind.u64.wrap ((a0 / 4294967296) * (Go.bits .and .u64 a1 4294967295))) + ((IntKind.u64.wrap ((Go.bits .and .u64 a0 4294967295) * (Go.bits .and .u64 a1 4294967295))) / 4294967296))) 4294967295) + (IntKind.u64.wrap ((Go.bits .and .u64 a0 4294967295) * (a1 / 4294967296))))) / 4294967296)), IntKind.u64.wrap (a0 * a1))) = some (r1, r2) := h
  clear h
  simp only [Option.some.injEq, Prod.mk.injEq] at H
  obtain ⟨rfl, rfl⟩ := H
  go_enter Tryd.func51, Tryd.ntmps51
  go_wp2
  go_ret2
  exact ⟨by first | rfl | (simp; done) | (simp [*]; done), by repeat (first | exact Drawn0.refl _ | apply Drawn0.step)⟩

/-! ### bits_Mul: function 33 -/
def bits_Mul.f (a0 : Int) (a1 : Int) : Option (Int × Int) := (bits_Mul64.f a0 a1).bind fun bt104 => (some (bt104.1, bt104.2))
set_option maxHeartbeats 8000000 in
set_option maxRecDepth 100000 in
theorem bits_Mul.calls (a0 : Int) (a1 : Int) (r1 : Int) (r2 : Int) (w : World) (h : bits_Mul.f a0 a1 = some (r1, r2)) :
    Calls Tryd.prog 33 #[.int .u64 a0, .int .u64 a1] w fun e w' => e = .returned (.tuple #[.int .u64 r1, .int .u64 r2]) ∧ Drawn0 w w' := by
  have H : ((bits_Mul64.f a0 a1).bind fun bt104 => (some (bt104.1, bt104.2))) = some (r1, r2) := h
  clear h
  replace H := Option.bind_eq_some_iff.mp H
  obtain ⟨⟨t104, t105⟩, A30, H⟩ := H
  replace H : (some (t104, t105)) = some (r1, r2) := H
  have A3 := Aside0.mk A30
  clear A30
  simp only [Option.some.injEq, Prod.mk.injEq] at H
  obtain ⟨rfl, rfl⟩ := H
  go_enter Tryd.func33, Tryd.ntmps33
  go_wp2_with (first | ((with_reducible refine gate_callee (f := 51) rfl ?_); refine goesL_ (some 25) rfl rfl Tryd.func51 (by kernel_rfl) rfl #[.int .u64 a0, .int .u64 a1] rfl (by (try simp only [List.map_toArray, List.map_cons, List.map_nil]); first | done | rfl | (simp only [List.length_drop, List.length_take]; rfl)) ?_; (with_reducible refine (bits_Mul64.calls a0 a1 t104 t105 _ A3.out).mono ?_); rintro e w' ⟨rfl, ⟨nd, rfl⟩⟩; refine ⟨_, rfl, ?_⟩))
  go_ret2
  exact ⟨by first | rfl | (simp; done) | (simp [*]; done), by repeat (first | exact Drawn0.refl _ | apply Drawn0.step)⟩

end Go.Proofs.YthnkkohhohkbkaaDoor.MP

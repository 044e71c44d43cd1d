-- Laid by hprint.py (this session's program, over the kit's print) for the seat YtlgoagkgmndchaaDoor. Lean checks it.
import Derived.Test.YtlgoagkgmndchaaDoorPAx0
namespace Go.Proofs.YtlgoagkgmndchaaDoor.PA
open Go.RowKit Go.Proofs.YtlgoagkgmndchaaDoorW.PrintWords Go.Proofs.YtlgoagkgmndchaaDoorW.PrintLast Go.Proofs.YtlgoagkgmndchaaDoorW.PrintMore
attribute [local go_sem] max2_int min2_int max_two min_two max_three min_three max_four min_four   -- for this text's walks alone
set_option linter.unusedVariables false
set_option linter.unusedSimpArgs false

/-! ### prelude base -/
theorem bs_eq (a b : ByteArray) : a.toList = b.toList ↔ a = b := by
  rw [ByteArray.toList_eq, ByteArray.toList_eq]
  constructor
  · intro h
    cases a with | mk x => cases b with | mk y => exact congrArg ByteArray.mk (Array.toList_inj.1 h)
  · rintro rfl; rfl
theorem wrap_up {i : Int} {n : Nat} (h0 : 0 ≤ i) (h : i < (n : Int)) (hn : n ≤ 9223372036854775807) : wrap64 (i + 1) = i + 1 := by
  unfold wrap64; omega
theorem wrap_in (n : Int) (h0 : -9223372036854775808 ≤ n) (h1 : n ≤ 9223372036854775807) : wrap64 n = n := by unfold wrap64; omega
theorem drop_at {α : Type} (l : List α) (d : α) (i : Nat) (h : i < l.length) : l.drop i = l.getD i d :: l.drop (i + 1) := by
  rw [List.drop_eq_getElem_cons h, List.getD_eq_getElem?_getD, List.getElem?_eq_getElem h]; rfl
theorem rd_nat (l : List Int) (i : Nat) : rd l (i : Int) = l.getD i 0 := rfl
theorem rdOf_nat {α : Type} (d : α) (l : List α) (i : Nat) : rdOf d l (i : Int) = l.getD i d := rfl
theorem bt_nat (s : ByteArray) (i : Nat) : bt s (i : Int) = (bytesOf s).getD i 0 := (rd_bytesOf s (i : Int)).symm
theorem succ_cast (i : Nat) : ((i : Int) + 1) = ((i + 1 : Nat) : Int) := by omega
theorem ev_end {β : Type} {F : Nat → Option β} {r : β} (hs : ∀ k, F (k + 1) = some r) : Ev F r :=
  ⟨1, fun k hk => by obtain ⟨k, rfl⟩ : ∃ m, k = m + 1 := ⟨k - 1, by omega⟩; exact hs k⟩
theorem ev_step {β γ : Type} {F : Nat → Option β} {r : β} {G : Nat → Option γ} {q : γ} (h : Ev G q) (hs : ∀ k, G k = some q → F (k + 1) = some r) : Ev F r := by
  obtain ⟨K, hK⟩ := h
  exact ⟨K + 1, fun k hk => by obtain ⟨k, rfl⟩ : ∃ m, k = m + 1 := ⟨k - 1, by omega⟩; exact hs k (hK k (by omega))⟩
theorem ev_step2 {β γ δ : Type} {F : Nat → Option β} {r : β} {G : Nat → Option γ} {q : γ} {G' : Nat → Option δ} {q' : δ} (h : Ev G q) (h' : Ev G' q') (hs : ∀ k, G k = some q → G' k = some q' → F (k + 1) = some r) : Ev F r := by
  obtain ⟨K, hK⟩ := h
  obtain ⟨K', hK'⟩ := h'
  exact ⟨K + K' + 1, fun k hk => by obtain ⟨k, rfl⟩ : ∃ m, k = m + 1 := ⟨k - 1, by omega⟩; exact hs k (hK k (by omega)) (hK' k (by omega))⟩
theorem ev_map {β γ : Type} {F : Nat → Option β} {r : β} {G : Nat → Option γ} {q : γ} (h : Ev G q) (hs : ∀ k, G k = some q → F k = some r) : Ev F r := by
  obtain ⟨K, hK⟩ := h
  exact ⟨K, fun k hk => hs k (hK k hk)⟩
theorem ev_map2 {β γ δ : Type} {F : Nat → Option β} {r : β} {G : Nat → Option γ} {q : γ} {G' : Nat → Option δ} {q' : δ} (h : Ev G q) (h' : Ev G' q') (hs : ∀ k, G k = some q → G' k = some q' → F k = some r) : Ev F r := by
  obtain ⟨K, hK⟩ := h
  obtain ⟨K', hK'⟩ := h'
  exact ⟨K + K', fun k hk => hs k (hK k (by omega)) (hK' k (by omega))⟩
theorem ev_eq {β : Type} {F : Nat → Option β} {r r' : β} (h : Ev F r) (e : r = r') : Ev F r' := e ▸ h
theorem ev_all {β : Type} {F : Nat → Option β} {r : β} (h : ∀ k, F k = some r) : Ev F r := ⟨0, fun k _ => h k⟩
/-- Two ends of one run are one. -/
theorem ev_one {β : Type} {F : Nat → Option β} {r r' : β} {k : Nat} (hm : ∀ k, LeO (F k) (F (k + 1))) (h : F k = some r) (h' : Ev F r') : r = r' := by
  obtain ⟨K, hK⟩ := h'
  have h1 : F (k + K) = some r := at_rounds hm (Nat.le_add_right _ _) h
  rw [hK (k + K) (Nat.le_add_left _ _)] at h1
  exact (Option.some.inj h1).symm
/-- A loop over the indexes of a list, as a walk along its tails. -/
theorem walk_tails {α β : Type} (l : List α) (d : α) (F : Nat → Int → Option β) (G : List α → β)
    (hend : Ev (fun k => F k (l.length : Int)) (G []))
    (hstep : ∀ (i : Nat), i < l.length → Ev (fun k => F k ((i + 1 : Nat) : Int)) (G (l.drop (i + 1))) → Ev (fun k => F k (i : Int)) (G (l.getD i d :: l.drop (i + 1)))) :
    ∀ (n i : Nat), i ≤ l.length → l.length - i = n → Ev (fun k => F k (i : Int)) (G (l.drop i)) := by
  intro n
  induction n with
  | zero =>
    intro i h1 h2
    obtain rfl : i = l.length := by omega
    rw [List.drop_length]; exact hend
  | succ n ih =>
    intro i h1 h2
    have hlt : i < l.length := by omega
    rw [drop_at l d i hlt]
    exact hstep i hlt (ih (i + 1) (by omega) (by omega))
theorem walk_all {α β : Type} (l : List α) (d : α) (F : Nat → Int → Option β) (G : List α → β)
    (hend : Ev (fun k => F k (l.length : Int)) (G []))
    (hstep : ∀ (i : Nat), i < l.length → Ev (fun k => F k ((i + 1 : Nat) : Int)) (G (l.drop (i + 1))) → Ev (fun k => F k (i : Int)) (G (l.getD i d :: l.drop (i + 1)))) :
    Ev (fun k => F k 0) (G l) := walk_tails l d F G hend hstep l.length 0 (by omega) (by omega)

/-! what a name is -/
def letterI (c : Int) : Bool := (decide (65 ≤ c) && decide (c ≤ 90)) || (decide (97 ≤ c) && decide (c ≤ 122)) || (decide (48 ≤ c) && decide (c ≤ 57)) || decide (c = 95)
def wordB (s : ByteArray) : Bool := decide (1 ≤ s.size) && decide (s.size ≤ 32) && (bytesOf s).all letterI
/-- no name stands among the earlier ones -/
def freshB : List ByteArray → List ByteArray → Bool
  | _, [] => true
  | seen, x :: r => wordB x && !(seen.any fun y => decide (y = x)) && freshB (seen ++ [x]) r
def namesB (l : List ByteArray) : Bool := decide (1 ≤ l.length) && decide (l.length ≤ 250) && freshB [] l

/-! ### prelude maps -/
/-! A map that the call has made, told by what it holds at each key: its elements are told by themselves, whatever they are. -/
def anyR : Value → Option (DataW Value × List MemPlace) := fun v => some (.held v, [])
def MapIs {κ : Type} (enc : κ → Lit) (w : World) (P : Program) (k : TypeId) (b n : Nat) (f : κ → Option Value) : Prop :=
  ∃ D : DataW Value, w.ownsMap P k anyR b n D ∧ (∀ x, Maps.has D (enc x) = (f x).isSome) ∧ ∀ x v, f x = some v → ∀ z, D.atKey (enc x) z = .held v
def encS (s : ByteArray) : Lit := .string s.data.toList
def encI (x : Int) : Lit := .int .i64 x
theorem encS_inj (s t : ByteArray) (h : encS s = encS t) : s = t := by
  unfold encS at h
  injection h with h
  cases s with | mk x => cases t with | mk y => exact congrArg ByteArray.mk (Array.toList_inj.1 h)
theorem encI_inj (s t : Int) (h : encI s = encI t) : s = t := by unfold encI at h; injection h
theorem encS_key (s : ByteArray) : WideAt.IsKeyLit (encS s) := trivial
theorem encI_key (s : Int) : WideAt.IsKeyLit (encI s) := trivial
section
variable {κ : Type} {enc : κ → Lit} {w w' : World} {P : Program} {k e t : TypeId} {b n : Nat} {f : κ → Option Value}
theorem MapIs.made (w : World) (P : Program) (k : TypeId) : MapIs enc (w.alloc (.map #[] 0)) P k w.heap.size 0 (fun _ => none) :=
  ⟨.map [], World.ownsMap_made w P k anyR, fun _ => rfl, fun _ v h => by cases h⟩
theorem MapIs.kept {row : Option Nat} (h : MapIs enc w P k b n f) (hg : w.grownBy w' row) (hne : some b ≠ row) : MapIs enc w' P k b n f := by
  obtain ⟨D, h1, h2, h3⟩ := h
  exact ⟨D, h1.kept hg hne, h2, h3⟩
theorem MapIs.lt (h : MapIs enc w P k b n f) : b < w.heap.size := by obtain ⟨D, h1, _⟩ := h; exact h1.lt
theorem MapIs.below (h : MapIs enc w P k b n f) (hb : Below w.heap.size w w') : MapIs enc w' P k b n f := h.kept (grown_of_below hb none) (by simp)
theorem MapIs.alloc (h : MapIs enc w P k b n f) (o : Obj) : MapIs enc (w.alloc o) P k b n f := h.below (below_alloc (Below.refl _ _) o)
theorem MapIs.drewN (h : MapIs enc w P k b n f) (m : Nat) : MapIs enc (w.drewN m) P k b n f := h
theorem MapIs.setCell (h : MapIs enc w P k b n f) {a : Addr} (ha : b ≠ a.block) (u : Value) : MapIs enc (w.setCell a u) P k b n f := by
  obtain ⟨D, h1, h2, h3⟩ := h
  exact ⟨D, h1.setCell ha u, h2, h3⟩
theorem MapIs.mono (h : MapIs enc w P k b n f) {m : Nat} (hm : n ≤ m) : MapIs enc w P k b m f := by
  obtain ⟨D, h1, h2, h3⟩ := h
  exact ⟨D, h1.mono hm, h2, h3⟩
theorem MapIs.look_ok (h : MapIs enc w P k b n f) (K : Maps.Keyed P k) (ht : P.underlying t = some (.map k e)) {z : Value} (hz : (zeroValue e).run P w = .ok z w) {key : Value} {x : κ} (hkey : keyOf P k key = some (enc x)) :
    (Instr.lookup t (.map (some b)) key true).run P w = .ok (.tuple #[(f x).getD z, .bool (f x).isSome]) w := by
  obtain ⟨D, h1, h2, h3⟩ := h
  obtain ⟨v, ps, hrun, hv⟩ := h1.look_ok K ht hz (show anyR z = some (.held z, []) from rfl) hkey
  rw [hrun, h2 x]
  have hv' : DataW.held v = D.atKey (enc x) (.held z) := congrArg Prod.fst (Option.some.inj hv)
  cases hf : f x with
  | none =>
    have hn : Maps.has D (enc x) = false := by rw [h2 x, hf]; rfl
    rw [Maps.atKey_of_not_has hn] at hv'
    injection hv' with e; rw [e]; rfl
  | some u =>
    rw [h3 x u hf] at hv'
    injection hv' with e; rw [e]; rfl
theorem MapIs.look (h : MapIs enc w P k b n f) (K : Maps.Keyed P k) (ht : P.underlying t = some (.map k e)) {z : Value} (hz : (zeroValue e).run P w = .ok z w) {key : Value} {x : κ} (hkey : keyOf P k key = some (enc x)) :
    (Instr.lookup t (.map (some b)) key false).run P w = .ok ((f x).getD z) w := by
  obtain ⟨D, h1, h2, h3⟩ := h
  obtain ⟨v, ps, hrun, hv⟩ := h1.lookup K ht hz (show anyR z = some (.held z, []) from rfl) hkey
  rw [hrun]
  have hv' : DataW.held v = D.atKey (enc x) (.held z) := congrArg Prod.fst (Option.some.inj hv)
  cases hf : f x with
  | none =>
    have hn : Maps.has D (enc x) = false := by rw [h2 x, hf]; rfl
    rw [Maps.atKey_of_not_has hn] at hv'
    injection hv' with e; rw [e]; rfl
  | some u =>
    rw [h3 x u hf] at hv'
    injection hv' with e; rw [e]; rfl
theorem MapIs.update [DecidableEq κ] (h : MapIs enc w P k b n f) (K : Maps.Keyed P k) (ht : P.underlying t = some (.map k e)) (hinj : ∀ x y, enc x = enc y → x = y) (hn : n < maxLen) {key : Value} {x : κ} (hkey : keyOf P k key = some (enc x)) (hkl : WideAt.IsKeyLit (enc x)) (v : Value) :
    ∃ w', (Instr.mapUpdate t (.map (some b)) key v).run P w = .ok () w' ∧ MapIs enc w' P k b (n + 1) (fun y => if y = x then some v else f y) ∧ w.grownBy w' (some b) := by
  obtain ⟨D, h1, h2, h3⟩ := h
  have hD := h1.isMap
  obtain ⟨w', hrun, h4, h5⟩ := h1.update K ht hn hkey (show anyR v = some (.held v, []) from rfl)
  refine ⟨w', hrun, ⟨_, h4, fun y => ?_, fun y u hu z => ?_⟩, h5⟩
  · dsimp only
    by_cases hk : y = x
    · subst hk; rw [if_pos rfl, Maps.has_put_same hD hkl]; rfl
    · rw [if_neg hk, Maps.has_put_other (fun e => hk (hinj _ _ e)), h2]
  · dsimp only at hu
    by_cases hk : y = x
    · subst hk; rw [if_pos rfl] at hu; cases hu; exact Maps.atKey_put_same hD hkl _ _
    · rw [if_neg hk] at hu; rw [Maps.atKey_put_other (fun e => hk (hinj _ _ e))]; exact h3 y u hu z
end
section
variable {κ : Type} {enc : κ → Lit} {P : Program} (w : World) {ops : Array Oper} {rest : List Oper} {o : Oper} {a : Act} {Q : Exit → Act → World → Prop}
theorem wpList_mapis_ok (hg : o.guard = none) (m x : Operand) (t : TypeId) (hop : o.op = Op.lookup t m x true)
    (k e : TypeId) (K : Maps.Keyed P k) (ht : P.underlying t = some (.map k e)) {z : Value} (hz : (zeroValue e).run P w = .ok z w) (b n : Nat) (f : κ → Option Value)
    (hm : a.eval m = .map (some b)) (hown : MapIs enc w P k b n f) (key : Value) (kx : κ) (hx : a.eval x = key) (hkey : keyOf P k key = some (enc kx))
    (hK : wpList P ops Q rest (a.put o.dst (.tuple #[(f kx).getD z, .bool (f kx).isSome])) w) :
    wpList P ops Q (o :: rest) a w := by
  refine wpList_plain hg fun K' hK' => ?_
  have hrun := hown.look_ok K ht hz hkey
  unfold Oper.wp
  simp [execOp, hop, hm, hx, hrun, Result.andThen]
  exact hK' _ _ hK
theorem wpList_mapis (hg : o.guard = none) (m x : Operand) (t : TypeId) (hop : o.op = Op.lookup t m x false)
    (k e : TypeId) (K : Maps.Keyed P k) (ht : P.underlying t = some (.map k e)) {z : Value} (hz : (zeroValue e).run P w = .ok z w) (b n : Nat) (f : κ → Option Value)
    (hm : a.eval m = .map (some b)) (hown : MapIs enc w P k b n f) (key : Value) (kx : κ) (hx : a.eval x = key) (hkey : keyOf P k key = some (enc kx))
    (hK : wpList P ops Q rest (a.put o.dst ((f kx).getD z)) w) :
    wpList P ops Q (o :: rest) a w := by
  refine wpList_plain hg fun K' hK' => ?_
  have hrun := hown.look K ht hz hkey
  unfold Oper.wp
  simp [execOp, hop, hm, hx, hrun, Result.andThen]
  exact hK' _ _ hK
theorem wpList_mapis_upd [DecidableEq κ] (hg : o.guard = none) (m x v : Operand) (t : TypeId) (hop : o.op = Op.mapUpdate t m x v)
    (k e : TypeId) (K : Maps.Keyed P k) (ht : P.underlying t = some (.map k e)) (b n : Nat) (f : κ → Option Value)
    (hm : a.eval m = .map (some b)) (hown : MapIs enc w P k b n f) (hinj : ∀ x y, enc x = enc y → x = y) (hn : n < maxLen) (key val : Value) (kx : κ) (hx : a.eval x = key) (hv : a.eval v = val) (hkey : keyOf P k key = some (enc kx)) (hkl : WideAt.IsKeyLit (enc kx))
    (hK : ∀ w', MapIs enc w' P k b (n + 1) (fun y => if y = kx then some val else f y) → w.grownBy w' (some b) → wpList P ops Q rest (a.put o.dst undef) w') :
    wpList P ops Q (o :: rest) a w := by
  refine wpList_plain hg fun K' hK' => ?_
  obtain ⟨w', hrun, r1, r2⟩ := hown.update K ht hinj hn hkey hkl val
  unfold Oper.wp
  simp [execOp, hop, hm, hx, hv, hrun, Result.andThen]
  exact hK' _ _ (hK w' r1 r2)
end

/-! ### prelude own -/
theorem infoStr : (Tryd.prog.info? 9).map (fun i => (i.zero, i.size, i.bytes)) = some (some (.string ⟨#[]⟩), 1, 16) := by kernel_rfl
theorem zero_int (w : World) : (zeroValue 3).run Tryd.prog w = .ok (.int .i64 0) w := by kernel_rfl
theorem zero_str (w : World) : (zeroValue 9).run Tryd.prog w = .ok (.string ⟨#[]⟩) w := by kernel_rfl
theorem zero_bool (w : World) : (zeroValue 4).run Tryd.prog w = .ok (.bool false) w := by kernel_rfl
theorem law_str : Maps.Keyed Tryd.prog 9 := Maps.string_keyed Tryd.underlying9
theorem law_int : Maps.Keyed Tryd.prog 3 := Maps.int_keyed Tryd.underlying3
def sizesB (l : List ByteArray) : Bool := l.all fun s => decide (s.size ≤ 9223372036854775807)
theorem sizes_at {l : List ByteArray} (h : sizesB l = true) (k : Nat) : (l.getD k ByteArray.empty).size ≤ 9223372036854775807 := by
  rw [List.getD_eq_getElem?_getD]
  cases e : l[k]? with
  | none => decide
  | some x =>
    have hm := List.mem_of_getElem? e
    have := (List.all_eq_true.1 h) x hm
    simpa using this
def intsB (l : List Int) : Bool := l.all fun x => decide (-9223372036854775808 ≤ x) && decide (x ≤ 9223372036854775807)
theorem ints_at {l : List Int} (h : intsB l = true) (k : Nat) : -9223372036854775808 ≤ l.getD k 0 ∧ l.getD k 0 ≤ 9223372036854775807 := by
  rw [List.getD_eq_getElem?_getD]
  cases e : l[k]? with
  | none => exact ⟨by decide, by decide⟩
  | some x =>
    have hm := List.mem_of_getElem? e
    have := (List.all_eq_true.1 h) x hm
    simpa using this
theorem key_int (x : Int) (h : -9223372036854775808 ≤ x ∧ x ≤ 9223372036854775807) : keyOf Tryd.prog 3 (.int .i64 x) = some (encI x) :=
  Maps.keyOf_int_mk Tryd.underlying3 (Go.WalkArith.wf_i64 h)
theorem key_str (s : ByteArray) (h : s.size ≤ 9223372036854775807) : keyOf Tryd.prog 9 (.string s) = some (encS s) :=
  Go.WideMaps.keyOf_string_mk Tryd.underlying9 (by unfold maxLen; exact h)
/-- a map's block is no row's -/
theorem MapIs.ne_row {κ : Type} {enc : κ → Lit} {w : World} {P : Program} {k : TypeId} {b n : Nat} {f : κ → Option Value} (h : MapIs enc w P k b n f) {α : Type} {d : Kd α} {e base : Nat} {ok : Nat → Prop} {v : Value} {xs : List α} (hR : d.R e w base ok v xs) : some b ≠ v.ownBlock := by
  obtain ⟨D, ⟨es, clock, hb, _⟩, _⟩ := h
  intro hv
  obtain ⟨inner, ho⟩ := Kd.R_own hR
  obtain ⟨cells, hc⟩ := own_typed ho b hv.symm
  rw [hb] at hc
  cases hc
theorem Kd.R_off_map {κ : Type} {enc : κ → Lit} {w w1 : World} {P : Program} {k : TypeId} {b n : Nat} {f : κ → Option Value} {α : Type} {d : Kd α} {e base : Nat} {ok : Nat → Prop} {v : Value} {xs : List α} (h : d.R e w base ok v xs) (hM : MapIs enc w P k b n f) (hg : w.grownBy w1 (some b)) : d.R e w1 base ok v xs := by
  obtain ⟨D, ⟨es, clock, hb, _⟩, _⟩ := hM
  refine Kd.R_mono (Kd.R_move (Kd.R_bound h) fun k hk => ?_) (fun _ hk => hk.1)
  obtain ⟨_, _, hlt, q, _, cells, hc⟩ := hk
  refine hg.block k hlt fun e => ?_
  injection e with e
  subst e
  rw [hb] at hc; cases hc
/-- where a list first pays p, or -1 -/
def idxFrom {α : Type} (p : α → Bool) : List α → Nat → Int
  | [], _ => -1
  | x :: r, i => if p x = true then (i : Int) else idxFrom p r (i + 1)
theorem idx_any {α : Type} (p : α → Bool) : ∀ (l : List α) (i : Nat), decide (0 ≤ idxFrom p l i) = l.any p := by
  intro l
  induction l with
  | nil => intro i; rfl
  | cons x r ih =>
    intro i
    unfold idxFrom
    by_cases h : p x = true
    · rw [if_pos h, List.any_cons, h, decide_eq_true (by omega)]; rfl
    · rw [if_neg h, ih, List.any_cons, Bool.eq_false_iff.mpr h]; rfl

/-! ### prelude cbytes -/
theorem bapp (a b : List UInt8) : (⟨a.toArray⟩ : ByteArray) ++ ⟨b.toArray⟩ = ⟨(a ++ b).toArray⟩ := by
  apply ByteArray.ext
  rw [ByteArray.data_append]; simp
theorem bsize (a : List UInt8) : (⟨a.toArray⟩ : ByteArray).size = a.length := by show a.toArray.size = _; rw [List.size_toArray]
theorem bsum (a b : List UInt8) (ha : a.length ≤ 1000000) (hb : b.length ≤ 1000000) : (⟨a.toArray⟩ : ByteArray).size + (⟨b.toArray⟩ : ByteArray).size ≤ 9223372036854775807 := by rw [bsize, bsize]; omega
theorem bt_byte (s : ByteArray) (i : Nat) (hi : i < s.size) : bt s (i : Int) = ((s[i]'hi).toNat : Int) := by
  unfold bt; rw [dif_pos (show ((i : Int)).toNat < s.size from hi)]; rfl
theorem bdrop (s : ByteArray) (i : Nat) (hi : i < s.size) : s.data.toList.drop i = (s[i]'hi) :: s.data.toList.drop (i + 1) := by
  rw [List.drop_eq_getElem_cons (by rw [data_length]; exact hi)]; rfl

/-! ### unicodetextlaw06_few: function 8 -/
def unicodetextlaw06_few.f (l0_0 : List Int) : Option (Bool) := some (decide ((l0_0.length : Int) ≤ 300))
set_option maxHeartbeats 8000000 in
set_option maxRecDepth 100000 in
theorem unicodetextlaw06_few.calls (A0_0 : Option Addr) (c0_0 : Nat) (l0_0 : List Int) (r : Bool) (w : World) (hr0_0 : Kd.C (Kd.int .i64) w A0_0 l0_0.length l0_0) (hc0_0 : l0_0.length ≤ c0_0) (h : unicodetextlaw06_few.f l0_0 = some r) :
    Calls Tryd.prog 8 #[.agg #[.slice A0_0 l0_0.length c0_0]] w fun e w' => e = .returned (.bool r) ∧ Below w.heap.size w w' := by
  have hu24 := Tryd.underlying24
  have HR0_0 := Aside0.mk hr0_0
  have HC0_0 := Aside0.mk hc0_0
  clear hr0_0 hc0_0
  have HB := Aside0.mk (Below.refl w.heap.size w)
  have H : (some (decide ((l0_0.length : Int) ≤ 300))) = some r := h
  clear h
  obtain rfl := Option.some.inj H
  go_enter Tryd.func8, Tryd.ntmps8
  go_wp2_with (first | ((with_reducible refine gate_dst (N := 1) rfl ?_); refine box_event ?hg (N := 1) ?hd (cs := #[.slice A0_0 l0_0.length c0_0]) (t := 24) ?hr ?_; (case hd => rfl); (case hg => rfl); (case hr => first | (go_simp; done) | (go_simp; rfl)); intro gb101 hg w2 hbox hb; have n0_ := Aside0.mk (below_step (by repeat (first | (with_reducible first | exact HB.out | apply below_alloc | apply pw_below_drewN | apply below_drew1) | exact HB.out)) hb); have n1_ := Aside0.mk (hbox); have n2_ := Aside0.mk ((by rw [hg]; exact (below_size (by repeat (first | (with_reducible first | exact HB.out | apply below_alloc | apply pw_below_drewN | apply below_drew1) | exact HB.out))) : w.heap.size ≤ gb101)); have n3_ := Aside0.mk ((by rw [hg]; exact (below_size (by repeat (first | (with_reducible first | exact HB.out | apply below_alloc | apply pw_below_drewN | apply below_drew1) | exact HB.out))) : w.heap.size ≤ gb101)); clear HB; have HB := n0_; have BK101 := n1_; have GW101 := n2_; have GE101 := n3_; clear n0_ n1_ n2_ n3_; clear hb hbox hg; have hcz3_0 : w2.cell? ⟨gb101, 0, none⟩ = some (.slice A0_0 l0_0.length c0_0) := (blk_cell BK101.out 0).trans rfl; have hfz3_0 := blk_frozen BK101.out 0))
  go_ret
  exact ⟨by first | rfl | (simp [errW_none, errW_some] <;> rfl) | (simp [*, errW_none, errW_some] <;> rfl), by repeat (first | (with_reducible first | exact HB.out | apply below_alloc | apply pw_below_drewN | apply below_drew1 | refine below_set ?_ GE101.out) | exact HB.out)⟩

/-! ### codepoint_Valid: function 40 -/
def codepoint_Valid.f (a0 : Int) : Option (Bool) := if a0 ≥ 0 then (some (decide (a0 ≤ 1114111))) else (some false)
set_option maxHeartbeats 8000000 in
set_option maxRecDepth 100000 in
theorem codepoint_Valid.calls (a0 : Int) (r : Bool) (w : World) (h : codepoint_Valid.f a0 = some r) :
    Calls Tryd.prog 40 #[.int .i64 a0] w fun e w' => e = .returned (.bool r) ∧ Drawn0 w w' := by
  have H : (if a0 ≥ 0 then (some (decide (a0 ≤ 1114111))) else (some false)) = some r := h
  clear h
  by_cases c2 : a0 ≥ 0
  · rw [if_pos c2] at H
    have c2b0 : decide (0 ≤ a0) = true := decide_eq_true c2
    clear c2
    obtain rfl := Option.some.inj H
    go_enter Tryd.func40, Tryd.ntmps40
    go_wp2
    go_ret
    exact ⟨by first | rfl | (simp; done) | (simp [*]; done), by repeat (first | exact Drawn0.refl _ | apply Drawn0.step)⟩
  · rw [if_neg c2] at H
    have c2b0 : decide (0 ≤ a0) = false := decide_eq_false c2
    clear c2
    obtain rfl := Option.some.inj H
    go_enter Tryd.func40, Tryd.ntmps40
    go_wp2
    go_ret
    exact ⟨by first | rfl | (simp; done) | (simp [*]; done), by repeat (first | exact Drawn0.refl _ | apply Drawn0.step)⟩

/-! ### codepoint_Surrogate: function 41 -/
def codepoint_Surrogate.f (a0 : Int) : Option (Bool) := if a0 ≥ 55296 then (some (decide (a0 ≤ 57343))) else (some false)
set_option maxHeartbeats 8000000 in
set_option maxRecDepth 100000 in
theorem codepoint_Surrogate.calls (a0 : Int) (r : Bool) (w : World) (h : codepoint_Surrogate.f a0 = some r) :
    Calls Tryd.prog 41 #[.int .i64 a0] w fun e w' => e = .returned (.bool r) ∧ Drawn0 w w' := by
  have H : (if a0 ≥ 55296 then (some (decide (a0 ≤ 57343))) else (some false)) = some r := h
  clear h
  by_cases c2 : a0 ≥ 55296
  · rw [if_pos c2] at H
    have c2b0 : decide (55296 ≤ a0) = true := decide_eq_true c2
    clear c2
    obtain rfl := Option.some.inj H
    go_enter Tryd.func41, Tryd.ntmps41
    go_wp2
    go_ret
    exact ⟨by first | rfl | (simp; done) | (simp [*]; done), by repeat (first | exact Drawn0.refl _ | apply Drawn0.step)⟩
  · rw [if_neg c2] at H
    have c2b0 : decide (55296 ≤ a0) = false := decide_eq_false c2
    clear c2
    obtain rfl := Option.some.inj H
    go_enter Tryd.func41, Tryd.ntmps41
    go_wp2
    go_ret
    exact ⟨by first | rfl | (simp; done) | (simp [*]; done), by repeat (first | exact Drawn0.refl _ | apply Drawn0.step)⟩

/-! ### codepoint_Scalar: function 20 -/
def codepoint_Scalar.f (a0 : Int) : Option (Bool) := (codepoint_Valid.f a0).bind fun t102 => (if t102 = true then ((codepoint_Surrogate.f a0).bind fun t103 => (some (!t103))) else (some false))
set_option maxHeartbeats 8000000 in
set_option maxRecDepth 100000 in
theorem codepoint_Scalar.calls (a0 : Int) (r : Bool) (w : World) (h : codepoint_Scalar.f a0 = some r) :
    Calls Tryd.prog 20 #[.int .i64 a0] w fun e w' => e = .returned (.bool r) ∧ Drawn0 w w' := by
  have H : ((codepoint_Valid.f a0).bind fun t102 => (if t102 = true then ((codepoint_Surrogate.f a0).bind fun t103 => (some (!t103))) else (some false))) = some r := h
  clear h
  replace H := Option.bind_eq_some_iff.mp H
  obtain ⟨t102, A20, H⟩ := H
  replace H : (if t102 = true then ((codepoint_Surrogate.f a0).bind fun t103 => (some (!t103))) else (some false)) = some r := H
  have A2 := Aside0.mk A20
  clear A20
  by_cases c3 : t102 = true
  · subst c3
    have H1 : ((codepoint_Surrogate.f a0).bind fun t103 => (some (!t103))) = some r := by rw [if_pos rfl] at H; exact H
    clear H
    have H := H1
    clear H1
    replace H := Option.bind_eq_some_iff.mp H
    obtain ⟨t103, A40, H⟩ := H
    replace H : (some (!t103)) = some r := H
    have A4 := Aside0.mk A40
    clear A40
    obtain rfl := Option.some.inj H
    go_enter Tryd.func20, Tryd.ntmps20
    go_wp2_with (first | ((with_reducible refine gate_callee (f := 40) rfl ?_); refine goesL_ (some 4) rfl rfl Tryd.func40 (by kernel_rfl) rfl #[.int .i64 a0] rfl (by (try simp only [List.map_toArray, List.map_cons, List.map_nil]); first | done | rfl | (simp only [List.length_drop, List.length_take]; rfl)) ?_; (with_reducible refine (codepoint_Valid.calls a0 true _ A2.out).mono ?_); rintro e w' ⟨rfl, ⟨nd, rfl⟩⟩; refine ⟨_, rfl, ?_⟩) | (go_at_call 41; (with_reducible refine (codepoint_Surrogate.calls a0 t103 _ A4.out).mono ?_); rintro e w' ⟨rfl, ⟨nd, rfl⟩⟩))
    go_ret
    exact ⟨by first | rfl | (simp; done) | (simp [*]; done), by repeat (first | exact Drawn0.refl _ | apply Drawn0.step)⟩
  · replace c3 := Bool.eq_false_iff.mpr c3
    subst c3
    have H1 : (some false) = some r := by rw [if_neg (show ¬ (false = true) by decide)] at H; exact H
    clear H
    have H := H1
    clear H1
    obtain rfl := Option.some.inj H
    go_enter Tryd.func20, Tryd.ntmps20
    go_wp2_with (first | ((with_reducible refine gate_callee (f := 40) rfl ?_); refine goesL_ (some 4) rfl rfl Tryd.func40 (by kernel_rfl) rfl #[.int .i64 a0] rfl (by (try simp only [List.map_toArray, List.map_cons, List.map_nil]); first | done | rfl | (simp only [List.length_drop, List.length_take]; rfl)) ?_; (with_reducible refine (codepoint_Valid.calls a0 false _ A2.out).mono ?_); rintro e w' ⟨rfl, ⟨nd, rfl⟩⟩; refine ⟨_, rfl, ?_⟩))
    go_ret
    exact ⟨by first | rfl | (simp; done) | (simp [*]; done), by repeat (first | exact Drawn0.refl _ | apply Drawn0.step)⟩

/-! ### charset_Check: function 9 -/
def scalarB (x : Int) : Bool := decide (0 ≤ x) && decide (x ≤ 1114111) && !(decide (55296 ≤ x) && decide (x ≤ 57343))
def dupI : List Int → List Int → Bool
  | _, [] => false
  | seen, x :: r => (!decide (x = -1) && seen.any fun y => decide (y = x)) || dupI (seen ++ [x]) r
def badI (x : Int) : Bool := !decide (x = -1) && !scalarB x
def checkB (l : List Int) : Int := if l.length = 256 then (if l.any badI = true then 1 else if dupI [] l = true then 5 else 0) else 2
theorem scalar_f (x : Int) : codepoint_Scalar.f x = some (scalarB x) := by
  unfold codepoint_Scalar.f codepoint_Valid.f codepoint_Surrogate.f scalarB
  by_cases h1 : x ≥ 0 <;> by_cases h2 : x ≤ 1114111 <;> by_cases h3 : x ≥ 55296 <;> by_cases h4 : x ≤ 57343 <;> simp [h1, h2, h3, h4]
theorem take_at (l : List Int) (k : Nat) (h : k < l.length) : l.take (k + 1) = l.take k ++ [l.getD k 0] := by
  rw [List.take_succ_eq_append_getElem h, List.getD_eq_getElem?_getD, List.getElem?_eq_getElem h]; rfl
theorem reti {k : IntKind} {a b : Int} (h : a = b) : Ending.returned (.int k a) = .returned (.int k b) := by rw [h]
theorem any_snoc (l : List Int) (x y : Int) : ((l ++ [x]).any fun z => decide (z = y)) = ((l.any fun z => decide (z = y)) || decide (x = y)) := by rw [List.any_append]; simp
def charset_Check.f (l0_0 : List Int) : Option Int := if intsB l0_0 = true then some (checkB l0_0) else none
set_option maxHeartbeats 1600000 in
set_option maxRecDepth 100000 in
theorem charset_Check.calls (A0_0 : Option Addr) (c0_0 : Nat) (l0_0 : List Int) (r : Int) (w : World) (hr0_0 : Kd.C (Kd.int .i64) w A0_0 l0_0.length l0_0) (hc0_0 : l0_0.length ≤ c0_0) (h : charset_Check.f l0_0 = some r) :
    Calls Tryd.prog 9 #[.agg #[.slice A0_0 l0_0.length c0_0]] w fun e w' => e = .returned (.int .i64 r) ∧ Below w.heap.size w w' := by
  unfold charset_Check.f at h
  by_cases hz : intsB l0_0 = true
  case neg => rw [if_neg hz] at h; cases h
  rw [if_pos hz] at h
  obtain rfl := Option.some.inj h
  have R0 := Aside0.mk hr0_0
  have HZ := Aside0.mk hz
  clear h hr0_0 hz
  have hmm := @run_makeMap Tryd.prog
  by_cases hl : l0_0.length = 256
  case neg =>
    have hr : checkB l0_0 = 2 := by unfold checkB; rw [if_neg hl]
    have HR := Aside0.mk hr
    clear hr
    go_enter Tryd.func9, Tryd.ntmps9
    go_wp2
    go_ret
    exact ⟨reti HR.out.symm, (Below.refl _ _).alloc (Nat.le_refl _) _⟩
  rw [hl] at R0 hc0_0 ⊢
  have HL := Aside0.mk hl
  clear hl
  go_enter Tryd.func9, Tryd.ntmps9
  go_wp2
  go_loopw [15] (fun i wr => ∃ (k : Nat), k ≤ 256 ∧ i = .int .i64 k ∧ Aside0 ((l0_0.take k).any badI = false) ∧ Aside0 (wr.cell? ⟨w.heap.size, 0, none⟩ = some (.slice A0_0 256 c0_0)) ∧ Aside0 (Below w.heap.size w wr)) (fun i _ => 256 - (intOf i).toNat)
  case atStart => exact ⟨0, Nat.zero_le _, rfl, ⟨by rw [List.take_zero]; rfl⟩, ⟨by simp⟩, ⟨below_alloc (Below.refl _ _) _⟩⟩
  case round =>
    obtain ⟨k, hk, rfl, hF, hD, hB⟩ := hrel
    by_cases hlt : k < 256
    · obtain ⟨ad, e, x0⟩ := Kd.at_int (Kd.C_below R0.out hB.out) (k : Int) (by omega) (by omega)
      cases e
      obtain ⟨x, hx⟩ : ∃ x, x = rd l0_0 (k : Int) := ⟨_, rfl⟩
      rw [← hx, show ((k : Int)).toNat = k from rfl] at x0
      have htake : Aside0 (l0_0.take (k + 1) = l0_0.take k ++ [x]) := ⟨by rw [hx]; exact take_at l0_0 k (by rw [HL.out]; exact hlt)⟩
      have hmem : Aside0 (x ∈ l0_0) := ⟨by rw [hx, rd_nat, List.getD_eq_getElem?_getD, List.getElem?_eq_getElem (by rw [HL.out]; exact hlt)]; exact List.getElem_mem _⟩
      clear hx
      have hsc := Aside0.mk (scalar_f x)
      by_cases hn : x = -1
      · go_wp2
        go_roundw
        case rel =>
          refine ⟨k + 1, by omega, by go_num, ⟨?_⟩, hD, hB⟩
          rw [htake.out, List.any_append, hF.out]; unfold badI; simp [hn]
        case measure => simp [intOf]; omega
      · cases hs : scalarB x with
        | true =>
          rw [hs] at hsc
          go_wp2_with (go_at_call 20; refine (codepoint_Scalar.calls _ _ _ hsc.out).mono ?_; rintro e w1 ⟨rfl, hd⟩; have hb := hd.below; clear hd)
          go_roundw
          case rel =>
            refine ⟨k + 1, by omega, by go_num, ⟨?_⟩, ⟨pw_cell_below hb hD.out⟩, ⟨hB.out.trans (hb.mono hB.out.size)⟩⟩
            rw [htake.out, List.any_append, hF.out]; unfold badI; simp [hs]
          case measure => simp [intOf]; omega
        | false =>
          rw [hs] at hsc
          have hr : Aside0 (checkB l0_0 = 1) := ⟨by
            unfold checkB
            rw [if_pos HL.out, if_pos (List.any_eq_true.2 ⟨x, hmem.out, by unfold badI; rw [hs, decide_eq_false hn]; rfl⟩)]⟩
          go_wp2_with (go_at_call 20; refine (codepoint_Scalar.calls _ _ _ hsc.out).mono ?_; rintro e w1 ⟨rfl, hd⟩; have hb := hd.below; clear hd)
          go_ret
          exact ⟨reti hr.out.symm, hB.out.trans (hb.mono hB.out.size)⟩
    · have hbad : Aside0 (l0_0.any badI = false) := ⟨by have := hF.out; rwa [List.take_of_length_le (by rw [HL.out]; omega)] at this⟩
      have d0 := pw_cell_below (below_alloc (Below.refl wr.heap.size wr) (.map #[] 0)) hD.out
      go_wp2
      have HB := Aside0.mk (below_alloc hB.out (.map #[] 0))
      have hne : w.heap.size ≤ wr.heap.size := hB.out.size
      obtain ⟨wo, hwo⟩ : ∃ wo, wo = wr := ⟨_, rfl⟩
      subst hwo
      go_loopw [31] (fun i w2 => ∃ (k : Nat) (f : Int → Option Value), k ≤ 256 ∧ i = .int .i64 k ∧ Aside0 (MapIs encI w2 Tryd.prog 3 wo.heap.size k f) ∧ Aside0 (∀ x, f x = if ((l0_0.take k).any fun y => decide (y = x)) = true then some (.bool true) else none) ∧ Aside0 (dupI (l0_0.take k) (l0_0.drop k) = dupI [] l0_0) ∧ Aside0 (Below w.heap.size w w2)) (fun i _ => 256 - (intOf i).toNat)
      case atStart => exact ⟨0, fun _ => none, Nat.zero_le _, rfl, ⟨MapIs.made wo Tryd.prog 3⟩, ⟨fun _ => rfl⟩, ⟨rfl⟩, HB⟩
      case round =>
        obtain ⟨k, f, hk, rfl, hM, hF, hdup, hB2⟩ := hrel
        by_cases hlt : k < 256
        · obtain ⟨ad, e, x0⟩ := Kd.at_int (Kd.C_below R0.out hB2.out) (k : Int) (by omega) (by omega)
          cases e
          obtain ⟨x, hx⟩ : ∃ x, x = rd l0_0 (k : Int) := ⟨_, rfl⟩
          rw [← hx, show ((k : Int)).toNat = k from rfl] at x0
          have htake : Aside0 (l0_0.take (k + 1) = l0_0.take k ++ [x]) := ⟨by rw [hx]; exact take_at l0_0 k (by rw [HL.out]; exact hlt)⟩
          have hdrop : Aside0 (l0_0.drop k = x :: l0_0.drop (k + 1)) := ⟨by rw [hx]; exact drop_at l0_0 0 k (by rw [HL.out]; exact hlt)⟩
          have hwf : -9223372036854775808 ≤ x ∧ x ≤ 9223372036854775807 := by rw [hx]; exact ints_at HZ.out k
          have HK := Aside0.mk (key_int x hwf)
          clear hx hwf
          have hstep : dupI (l0_0.take k) (l0_0.drop k) = ((!decide (x = -1) && (l0_0.take k).any fun y => decide (y = x)) || dupI (l0_0.take (k + 1)) (l0_0.drop (k + 1))) := by rw [hdrop.out, htake.out, dupI]
          have HS := Aside0.mk hstep
          clear hstep
          by_cases hn : x = -1
          · subst hn
            go_wp2_with (at_mapUpdate; refine wpList_mapis_upd _ rfl _ _ _ 43 rfl 3 4 law_int Tryd.underlying43 wo.heap.size k f rfl hM.out encI_inj (by unfold maxLen; omega) _ _ (-1) rfl rfl HK.out (encI_key (-1)) ?_; intro w3 hM2 hg2)
            go_roundw
            case rel =>
              refine ⟨k + 1, _, by omega, by go_num, ⟨hM2⟩, ⟨fun y => ?_⟩, ⟨?_⟩, ⟨hB2.out.grown hg2 hB2.out.size (fun j hj => by cases hj; exact hne)⟩⟩
              · rw [htake.out, any_snoc]
                by_cases hy : y = -1
                · subst hy; rw [if_pos rfl, decide_eq_true rfl, Bool.or_true, if_pos rfl]; rfl
                · rw [if_neg hy, decide_eq_false (fun e => hy e.symm), Bool.or_false]; exact hF.out y
              · rw [← hdup.out, HS.out, decide_eq_true rfl]; simp
            case measure => simp [intOf]; omega
          · cases hin : (l0_0.take k).any fun y => decide (y = x) with
            | true =>
              have hfx : f x = some (.bool true) := by rw [hF.out x, hin, if_pos rfl]
              have hr : Aside0 (checkB l0_0 = 5) := ⟨by
                unfold checkB
                rw [if_pos HL.out, hbad.out, if_neg (by decide), if_pos]
                rw [← hdup.out, HS.out, decide_eq_false hn, hin]; rfl⟩
              have hlk := hM.out.look law_int Tryd.underlying43 (zero_bool _) HK.out
              rw [hfx, Option.getD_some] at hlk
              go_wp2
              go_ret
              exact ⟨reti hr.out.symm, hB2.out⟩
            | false =>
              have hfx : f x = none := by rw [hF.out x, hin, if_neg (by decide)]
              have HIN := Aside0.mk hin
              clear hin
              have hlk := hM.out.look law_int Tryd.underlying43 (zero_bool _) HK.out
              rw [hfx, Option.getD_none] at hlk
              go_wp2_with (first | (at_mapUpdate; refine wpList_mapis_upd _ rfl _ _ _ 43 rfl 3 4 law_int Tryd.underlying43 wo.heap.size k f rfl hM.out encI_inj (by unfold maxLen; omega) _ _ x rfl rfl HK.out (encI_key x) ?_; intro w3 hM2 hg2))
              go_roundw
              case rel =>
                refine ⟨k + 1, _, by omega, by go_num, ⟨hM2⟩, ⟨fun y => ?_⟩, ⟨?_⟩, ⟨hB2.out.grown hg2 hB2.out.size (fun j hj => by cases hj; exact hne)⟩⟩
                · rw [htake.out, any_snoc]
                  by_cases hy : y = x
                  · subst hy; rw [if_pos rfl, decide_eq_true rfl, Bool.or_true, if_pos rfl]; rfl
                  · rw [if_neg hy, decide_eq_false (fun e => hy e.symm), Bool.or_false]; exact hF.out y
                · rw [← hdup.out, HS.out, HIN.out, Bool.and_false, Bool.false_or]
              case measure => simp [intOf]; omega
        · obtain rfl : k = 256 := by omega
          have hr : Aside0 (checkB l0_0 = 0) := ⟨by
            unfold checkB
            rw [if_pos HL.out, hbad.out, if_neg (by decide), if_neg]
            rw [← hdup.out, List.drop_of_length_le (by rw [HL.out]; omega), dupI]; decide⟩
          go_wp2
          go_ret
          exact ⟨reti hr.out.symm, hB2.out⟩

/-! ### unicodetextref01_Valid: function 42 -/
def unicodetextref01_Valid.f (a0 : Int) : Option (Bool) := if a0 ≥ 0 then (some (decide (a0 ≤ 1114111))) else (some false)
set_option maxHeartbeats 8000000 in
set_option maxRecDepth 100000 in
theorem unicodetextref01_Valid.calls (a0 : Int) (r : Bool) (w : World) (h : unicodetextref01_Valid.f a0 = some r) :
    Calls Tryd.prog 42 #[.int .i64 a0] w fun e w' => e = .returned (.bool r) ∧ Drawn0 w w' := by
  have H : (if a0 ≥ 0 then (some (decide (a0 ≤ 1114111))) else (some false)) = some r := h
  clear h
  by_cases c2 : a0 ≥ 0
  · rw [if_pos c2] at H
    have c2b0 : decide (0 ≤ a0) = true := decide_eq_true c2
    clear c2
    obtain rfl := Option.some.inj H
    go_enter Tryd.func42, Tryd.ntmps42
    go_wp2
    go_ret
    exact ⟨by first | rfl | (simp; done) | (simp [*]; done), by repeat (first | exact Drawn0.refl _ | apply Drawn0.step)⟩
  · rw [if_neg c2] at H
    have c2b0 : decide (0 ≤ a0) = false := decide_eq_false c2
    clear c2
    obtain rfl := Option.some.inj H
    go_enter Tryd.func42, Tryd.ntmps42
    go_wp2
    go_ret
    exact ⟨by first | rfl | (simp; done) | (simp [*]; done), by repeat (first | exact Drawn0.refl _ | apply Drawn0.step)⟩

/-! ### unicodetextref01_Surrogate: function 43 -/
def unicodetextref01_Surrogate.f (a0 : Int) : Option (Bool) := if a0 ≥ 55296 then (some (decide (a0 ≤ 57343))) else (some false)
set_option maxHeartbeats 8000000 in
set_option maxRecDepth 100000 in
theorem unicodetextref01_Surrogate.calls (a0 : Int) (r : Bool) (w : World) (h : unicodetextref01_Surrogate.f a0 = some r) :
    Calls Tryd.prog 43 #[.int .i64 a0] w fun e w' => e = .returned (.bool r) ∧ Drawn0 w w' := by
  have H : (if a0 ≥ 55296 then (some (decide (a0 ≤ 57343))) else (some false)) = some r := h
  clear h
  by_cases c2 : a0 ≥ 55296
  · rw [if_pos c2] at H
    have c2b0 : decide (55296 ≤ a0) = true := decide_eq_true c2
    clear c2
    obtain rfl := Option.some.inj H
    go_enter Tryd.func43, Tryd.ntmps43
    go_wp2
    go_ret
    exact ⟨by first | rfl | (simp; done) | (simp [*]; done), by repeat (first | exact Drawn0.refl _ | apply Drawn0.step)⟩
  · rw [if_neg c2] at H
    have c2b0 : decide (55296 ≤ a0) = false := decide_eq_false c2
    clear c2
    obtain rfl := Option.some.inj H
    go_enter Tryd.func43, Tryd.ntmps43
    go_wp2
    go_ret
    exact ⟨by first | rfl | (simp; done) | (simp [*]; done), by repeat (first | exact Drawn0.refl _ | apply Drawn0.step)⟩

/-! ### unicodetextref01_Scalar: function 21 -/
def unicodetextref01_Scalar.f (a0 : Int) : Option (Bool) := (unicodetextref01_Valid.f a0).bind fun t104 => (if t104 = true then ((unicodetextref01_Surrogate.f a0).bind fun t105 => (some (!t105))) else (some false))
set_option maxHeartbeats 8000000 in
set_option maxRecDepth 100000 in
theorem unicodetextref01_Scalar.calls (a0 : Int) (r : Bool) (w : World) (h : unicodetextref01_Scalar.f a0 = some r) :
    Calls Tryd.prog 21 #[.int .i64 a0] w fun e w' => e = .returned (.bool r) ∧ Drawn0 w w' := by
  have H : ((unicodetextref01_Valid.f a0).bind fun t104 => (if t104 = true then ((unicodetextref01_Surrogate.f a0).bind fun t105 => (some (!t105))) else (some false))) = some r := h
  clear h
  replace H := Option.bind_eq_some_iff.mp H
  obtain ⟨t104, A20, H⟩ := H
  replace H : (if t104 = true then ((unicodetextref01_Surrogate.f a0).bind fun t105 => (some (!t105))) else (some false)) = some r := H
  have A2 := Aside0.mk A20
  clear A20
  by_cases c3 : t104 = true
  · subst c3
    have H1 : ((unicodetextref01_Surrogate.f a0).bind fun t105 => (some (!t105))) = some r := by rw [if_pos rfl] at H; exact H
    clear H
    have H := H1
    clear H1
    replace H := Option.bind_eq_some_iff.mp H
    obtain ⟨t105, A40, H⟩ := H
    replace H : (some (!t105)) = some r := H
    have A4 := Aside0.mk A40
    clear A40
    obtain rfl := Option.some.inj H
    go_enter Tryd.func21, Tryd.ntmps21
    go_wp2_with (first | ((with_reducible refine gate_callee (f := 42) rfl ?_); refine goesL_ (some 4) rfl rfl Tryd.func42 (by kernel_rfl) rfl #[.int .i64 a0] rfl (by (try simp only [List.map_toArray, List.map_cons, List.map_nil]); first | done | rfl | (simp only [List.length_drop, List.length_take]; rfl)) ?_; (with_reducible refine (unicodetextref01_Valid.calls a0 true _ A2.out).mono ?_); rintro e w' ⟨rfl, ⟨nd, rfl⟩⟩; refine ⟨_, rfl, ?_⟩) | (go_at_call 43; (with_reducible refine (unicodetextref01_Surrogate.calls a0 t105 _ A4.out).mono ?_); rintro e w' ⟨rfl, ⟨nd, rfl⟩⟩))
    go_ret
    exact ⟨by first | rfl | (simp; done) | (simp [*]; done), by repeat (first | exact Drawn0.refl _ | apply Drawn0.step)⟩
  · replace c3 := Bool.eq_false_iff.mpr c3
    subst c3
    have H1 : (some false) = some r := by rw [if_neg (show ¬ (false = true) by decide)] at H; exact H
    clear H
    have H := H1
    clear H1
    obtain rfl := Option.some.inj H
    go_enter Tryd.func21, Tryd.ntmps21
    go_wp2_with (first | ((with_reducible refine gate_callee (f := 42) rfl ?_); refine goesL_ (some 4) rfl rfl Tryd.func42 (by kernel_rfl) rfl #[.int .i64 a0] rfl (by (try simp only [List.map_toArray, List.map_cons, List.map_nil]); first | done | rfl | (simp only [List.length_drop, List.length_take]; rfl)) ?_; (with_reducible refine (unicodetextref01_Valid.calls a0 false _ A2.out).mono ?_); rintro e w' ⟨rfl, ⟨nd, rfl⟩⟩; refine ⟨_, rfl, ?_⟩))
    go_ret
    exact ⟨by first | rfl | (simp; done) | (simp [*]; done), by repeat (first | exact Drawn0.refl _ | apply Drawn0.step)⟩

/-! ### unicodetextref06_Byte: function 22 -/
def unicodetextref06_Byte.l0 : Nat → Int → Int → List Int → Option (Int)
  | 0, _, _, _ => none
  | k + 1, x1, x5, x107000 => if x5 < (x107000.length : Int) then (if x1 ≥ 0 then (if 0 ≤ x5 then (if (rd x107000 x5) = x1 then (some x5) else (unicodetextref06_Byte.l0 k x1 (wrap64 (x5 + 1)) x107000)) else (none)) else (unicodetextref06_Byte.l0 k x1 (wrap64 (x5 + 1)) x107000)) else (some (-1))
def unicodetextref06_Byte.f (k : Nat) (l0_0 : List Int) (a1 : Int) : Option (Int) := unicodetextref06_Byte.l0 k a1 0 l0_0
theorem unicodetextref06_Byte.mono_l : ∀ k, (∀ y0 y1 y2, LeO (unicodetextref06_Byte.l0 k y0 y1 y2) (unicodetextref06_Byte.l0 (k + 1) y0 y1 y2))
  | 0 => fun _ _ _ r h => by simp [unicodetextref06_Byte.l0] at h
  | k + 1 => by
    have ih0 := unicodetextref06_Byte.mono_l k
    · intro y0 y1 y2
      unfold unicodetextref06_Byte.l0
      repeat' first
      | (with_reducible exact ih0 _ _ _)
      | (with_reducible exact LeO.refl _)
      | (with_reducible exact LeO.none _)
      | (with_reducible refine LeO.ite ?_ ?_)
      | (with_reducible refine LeO.bind ?_ (fun _ => ?_))
      | exact ih0 _ _ _
      | exact LeO.none _
      | refine LeO.ite ?_ ?_
      | refine LeO.bind ?_ (fun _ => ?_)
theorem unicodetextref06_Byte.mono : ∀ a0 a1 k, LeO (unicodetextref06_Byte.f k a0 a1) (unicodetextref06_Byte.f (k + 1) a0 a1) := by
  intro a0 a1 k
  have ih0 := unicodetextref06_Byte.mono_l k
  unfold unicodetextref06_Byte.f
  repeat' first
      | (with_reducible exact ih0 _ _ _)
      | (with_reducible exact LeO.refl _)
      | (with_reducible exact LeO.none _)
      | (with_reducible refine LeO.ite ?_ ?_)
      | (with_reducible refine LeO.bind ?_ (fun _ => ?_))
      | exact ih0 _ _ _
      | exact LeO.none _
      | refine LeO.ite ?_ ?_
      | refine LeO.bind ?_ (fun _ => ?_)
set_option maxHeartbeats 8000000 in
set_option maxRecDepth 100000 in
theorem unicodetextref06_Byte.calls (k : Nat) (A0_0 : Option Addr) (c0_0 : Nat) (l0_0 : List Int) (a1 : Int) (r : Int) (w : World) (hr0_0 : Kd.C (Kd.int .i64) w A0_0 l0_0.length l0_0) (hc0_0 : l0_0.length ≤ c0_0) (h : unicodetextref06_Byte.f k l0_0 a1 = some r) :
    Calls Tryd.prog 22 #[.agg #[.slice A0_0 l0_0.length c0_0], .int .i64 a1] w fun e w' => e = .returned (.int .i64 r) ∧ Below w.heap.size w w' := by
  have hu24 := Tryd.underlying24
  have HR0_0 := Aside0.mk hr0_0
  have HC0_0 := Aside0.mk hc0_0
  clear hr0_0 hc0_0
  have HB := Aside0.mk (Below.refl w.heap.size w)
  have H : (unicodetextref06_Byte.l0 k a1 0 l0_0) = some r := h
  clear h
  have H' := Aside0.mk H
  clear H
  go_enter Tryd.func22, Tryd.ntmps22
  go_wp2_with (first | ((with_reducible refine gate_dst (N := 2) rfl ?_); refine box_event ?hg (N := 2) ?hd (cs := #[.slice A0_0 l0_0.length c0_0]) (t := 24) ?hr ?_; (case hd => rfl); (case hg => rfl); (case hr => first | (go_simp; done) | (go_simp; rfl)); intro gb106 hg w3 hbox hb; have n0_ := Aside0.mk (below_step (by repeat (first | (with_reducible first | exact HB.out | apply below_alloc | apply pw_below_drewN | apply below_drew1) | exact HB.out)) hb); have n1_ := Aside0.mk (hbox); have n2_ := Aside0.mk ((by rw [hg]; exact (below_size (by repeat (first | (with_reducible first | exact HB.out | apply below_alloc | apply pw_below_drewN | apply below_drew1) | exact HB.out))) : w.heap.size ≤ gb106)); have n3_ := Aside0.mk ((by rw [hg]; exact (below_size (by repeat (first | (with_reducible first | exact HB.out | apply below_alloc | apply pw_below_drewN | apply below_drew1) | exact HB.out))) : w.heap.size ≤ gb106)); clear HB; have HB := n0_; have BK106 := n1_; have GW106 := n2_; have GE106 := n3_; clear n0_ n1_ n2_ n3_; clear hb hbox hg))
  go_loopg [5] k (fun kq v5 w' => ∃ (x5_1 : Int), v5 = .int .i64 x5_1 ∧ Aside0 (unicodetextref06_Byte.l0 kq a1 x5_1 l0_0 = some r) ∧ Aside0 (kq ≤ k) ∧ Aside0 (w'.heap[gb106]? = some (.cells #[(.slice A0_0 l0_0.length c0_0)] 24 (0, 0))) ∧ Aside0 (Below w.heap.size w w'))
  case atStart => exact ⟨(0), (by first | rfl | (simp; done) | (simp [*]; done)), H', ⟨Nat.le_refl _⟩, ⟨by (with_reducible repeat (first | refine blk_drewN ?_ _ | refine blk_drew ?_ | refine blk_alloc ?_ _)); exact BK106.out⟩, ⟨by repeat (first | (with_reducible first | exact HB.out | apply below_alloc | apply pw_below_drewN | apply below_drew1 | refine below_set ?_ GE106.out) | exact HB.out)⟩⟩
  case round =>
    clear H'
    try clear c2
    try clear p2
    obtain ⟨x5_1, rfl, HA, HK1, BK106, HB⟩ := hrel
    cases gk with
    | zero => exact absurd HA.out (by simp [unicodetextref06_Byte.l0])
    | succ k1 =>
      have H := HA.out
      clear HA
      simp only [unicodetextref06_Byte.l0] at H
      by_cases c4 : x5_1 < (l0_0.length : Int)
      · rw [if_pos c4] at H
        have c4b0 : decide (x5_1 < (l0_0.length : Int)) = true := decide_eq_true c4
        clear c4
        by_cases c5 : a1 ≥ 0
        · rw [if_pos c5] at H
          have c5b0 : decide (0 ≤ a1) = true := decide_eq_true c5
          clear c5
          by_cases c6 : 0 ≤ x5_1
          · rw [if_pos c6] at H
            have c6b0 : decide (0 ≤ x5_1) = true := decide_eq_true c6
            clear c6
            by_cases c7 : (rd l0_0 x5_1) = a1
            · rw [if_pos c7] at H
              have c7b0 : ((rd l0_0 x5_1) == a1) = true := beq_iff_eq.mpr c7
              have c7b1 : ((rd l0_0 x5_1) != a1) = false := bne_eq_false_iff_eq.mpr c7
              clear c7
              obtain rfl := Option.some.inj H
              have hcz8_0 : wr.cell? ⟨gb106, 0, none⟩ = some (.slice A0_0 l0_0.length c0_0) := (blk_cell BK106.out 0).trans rfl
              have hfz8_0 := blk_frozen BK106.out 0
              have p107 : 0 ≤ (x5_1 : Int) := of_decide_eq_true (by first | (with_reducible assumption) | assumption)
              have q107 : x5_1 < (l0_0.length : Int) := of_decide_eq_true (by first | (with_reducible assumption) | assumption)
              obtain ⟨ad107, e107, hx107_0⟩ := Kd.at_int HR0_0.out x5_1 p107 q107
              cases e107
              replace hx107_0 := (HB.out.cell (World.block_lt_of_cell? w _ hx107_0)).trans hx107_0
              replace p107 := eq_true p107
              replace q107 := eq_true q107
              go_wp2
              go_ret
              exact ⟨by first | rfl | (simp [errW_none, errW_some] <;> rfl) | (simp [*, errW_none, errW_some] <;> rfl), by repeat (first | (with_reducible first | exact HB.out | apply below_alloc | apply pw_below_drewN | apply below_drew1 | refine below_set ?_ GE106.out) | exact HB.out)⟩
            · rw [if_neg c7] at H
              have c7b0 : ((rd l0_0 x5_1) == a1) = false := beq_eq_false_iff_ne.mpr c7
              have c7b1 : ((rd l0_0 x5_1) != a1) = true := bne_iff_ne.mpr c7
              have H' := Aside0.mk H
              clear H
              have hcz9_0 : wr.cell? ⟨gb106, 0, none⟩ = some (.slice A0_0 l0_0.length c0_0) := (blk_cell BK106.out 0).trans rfl
              have hfz9_0 := blk_frozen BK106.out 0
              have p107 : 0 ≤ (x5_1 : Int) := of_decide_eq_true (by first | (with_reducible assumption) | assumption)
              have q107 : x5_1 < (l0_0.length : Int) := of_decide_eq_true (by first | (with_reducible assumption) | assumption)
              obtain ⟨ad107, e107, hx107_0⟩ := Kd.at_int HR0_0.out x5_1 p107 q107
              cases e107
              replace hx107_0 := (HB.out.cell (World.block_lt_of_cell? w _ hx107_0)).trans hx107_0
              replace p107 := eq_true p107
              replace q107 := eq_true q107
              go_wp2
              go_roundg k1
              case measure => have := HK1.out; omega
              case rel => exact ⟨(wrap64 (x5_1 + 1)), (by first | rfl | (simp; done) | (simp [*]; done)), H', ⟨by have := HK1.out; omega⟩, ⟨by (with_reducible repeat (first | refine blk_drewN ?_ _ | refine blk_drew ?_ | refine blk_alloc ?_ _)); exact BK106.out⟩, ⟨by repeat (first | (with_reducible first | exact HB.out | apply below_alloc | apply pw_below_drewN | apply below_drew1 | refine below_set ?_ GE106.out) | exact HB.out)⟩⟩
          · rw [if_neg c6] at H
            exact absurd H (by simp)
        · rw [if_neg c5] at H
          have c5b0 : decide (0 ≤ a1) = false := decide_eq_false c5
          clear c5
          have H' := Aside0.mk H
          clear H
          have hcz10_0 : wr.cell? ⟨gb106, 0, none⟩ = some (.slice A0_0 l0_0.length c0_0) := (blk_cell BK106.out 0).trans rfl
          have hfz10_0 := blk_frozen BK106.out 0
          go_wp2
          go_roundg k1
          case measure => have := HK1.out; omega
          case rel => exact ⟨(wrap64 (x5_1 + 1)), (by first | rfl | (simp; done) | (simp [*]; done)), H', ⟨by have := HK1.out; omega⟩, ⟨by (with_reducible repeat (first | refine blk_drewN ?_ _ | refine blk_drew ?_ | refine blk_alloc ?_ _)); exact BK106.out⟩, ⟨by repeat (first | (with_reducible first | exact HB.out | apply below_alloc | apply pw_below_drewN | apply below_drew1 | refine below_set ?_ GE106.out) | exact HB.out)⟩⟩
      · rw [if_neg c4] at H
        have c4b0 : decide (x5_1 < (l0_0.length : Int)) = false := decide_eq_false c4
        clear c4
        obtain rfl := Option.some.inj H
        have hcz11_0 : wr.cell? ⟨gb106, 0, none⟩ = some (.slice A0_0 l0_0.length c0_0) := (blk_cell BK106.out 0).trans rfl
        have hfz11_0 := blk_frozen BK106.out 0
        go_wp2
        go_ret
        exact ⟨by first | rfl | (simp [errW_none, errW_some] <;> rfl) | (simp [*, errW_none, errW_some] <;> rfl), by repeat (first | (with_reducible first | exact HB.out | apply below_alloc | apply pw_below_drewN | apply below_drew1 | refine below_set ?_ GE106.out) | exact HB.out)⟩

/-! ### prelude cbyte -/
def byteL : List Int → Nat → Int → Int
  | [], _, _ => -1
  | y :: r, i, x => if 0 ≤ x ∧ y = x then (i : Int) else byteL r (i + 1) x
def byteR (l : List Int) (x : Int) : Int := byteL l 0 x
theorem cw64 (n : Int) (h0 : -9223372036854775808 ≤ n) (h1 : n ≤ 9223372036854775807) : wrap64 n = n := by unfold wrap64; omega
theorem byte_l0 (l : List Int) (x : Int) (hl : l.length ≤ 100000) : ∀ (n i : Nat), i ≤ l.length → l.length - i = n → ∀ k, n < k → unicodetextref06_Byte.l0 k x (i : Int) l = some (byteL (l.drop i) i x) := by
  intro n
  induction n with
  | zero =>
    intro i h1 h2 k hk
    obtain ⟨k, rfl⟩ : ∃ m, k = m + 1 := ⟨k - 1, by omega⟩
    rw [unicodetextref06_Byte.l0, if_neg (by omega), List.drop_of_length_le (by omega), byteL]
  | succ n ih =>
    intro i h1 h2 k hk
    obtain ⟨k, rfl⟩ : ∃ m, k = m + 1 := ⟨k - 1, by omega⟩
    have hi : i < l.length := by omega
    have hn := ih (i + 1) (by omega) (by omega) k (by omega)
    have hw : wrap64 ((i : Int) + 1) = ((i + 1 : Nat) : Int) := by unfold wrap64; omega
    rw [unicodetextref06_Byte.l0, if_pos (by omega), drop_at l 0 i hi, byteL, hw, hn]
    by_cases h0 : 0 ≤ x
    · rw [if_pos h0, if_pos (by omega), rd_nat]
      by_cases e : l.getD i 0 = x
      · rw [if_pos e, if_pos ⟨h0, e⟩]
      · rw [if_neg e, if_neg (fun h => e h.2)]
    · rw [if_neg h0, if_neg (fun h => h0 h.1)]
theorem byte_f (l : List Int) (x : Int) (hl : l.length ≤ 100000) (k : Nat) (hk : l.length < k) : unicodetextref06_Byte.f k l x = some (byteR l x) := by
  have := byte_l0 l x hl l.length 0 (Nat.zero_le _) (by omega) k hk
  rw [List.drop_zero] at this
  exact this
theorem byteL_app : ∀ (pre suf : List Int) (i : Nat) (x : Int), 0 ≤ x → byteL (pre ++ suf) i x = if (pre.any fun z => decide (z = x)) = true then byteL pre i x else byteL suf (i + pre.length) x := by
  intro pre
  induction pre with
  | nil => intro suf i x h; rw [List.any_nil, if_neg (by decide)]; rfl
  | cons a r ih =>
    intro suf i x h
    rw [List.cons_append, byteL, List.any_cons, byteL, ih suf (i + 1) x h]
    by_cases e : a = x
    · have c : (0 ≤ x ∧ a = x) := ⟨h, e⟩
      simp only [if_pos c, decide_eq_true e, Bool.true_or, if_true]
    · have c : ¬ (0 ≤ x ∧ a = x) := fun q => e q.2
      simp only [if_neg c, decide_eq_false e, Bool.false_or, List.length_cons, show i + 1 + r.length = i + (r.length + 1) from by omega]
theorem byteL_in : ∀ (l : List Int) (i : Nat) (x : Int), 0 ≤ x → (l.any fun z => decide (z = x)) = true → (i : Int) ≤ byteL l i x ∧ byteL l i x < ((i + l.length : Nat) : Int) := by
  intro l
  induction l with
  | nil => intro i x h e; rw [List.any_nil] at e; cases e
  | cons a r ih =>
    intro i x h e
    rw [byteL, List.length_cons]
    by_cases q : a = x
    · rw [if_pos ⟨h, q⟩]; omega
    · rw [if_neg (fun q2 => q q2.2)]
      rw [List.any_cons, decide_eq_false q, Bool.false_or] at e
      have := ih (i + 1) x h e
      omega
theorem byteL_out : ∀ (l : List Int) (i : Nat) (x : Int), (l.any fun z => decide (z = x)) = false → byteL l i x = -1 := by
  intro l
  induction l with
  | nil => intro i x e; rfl
  | cons a r ih =>
    intro i x e
    rw [List.any_cons, Bool.or_eq_false_iff] at e
    rw [byteL, if_neg (fun q => by have := of_decide_eq_false e.1; exact this q.2)]
    exact ih (i + 1) x e.2
theorem byteL_neg : ∀ (l : List Int) (i : Nat) (x : Int), ¬ 0 ≤ x → byteL l i x = -1 := by
  intro l
  induction l with
  | nil => intro i x e; rfl
  | cons a r ih =>
    intro i x e
    rw [byteL, if_neg (fun q => e q.1)]
    exact ih (i + 1) x e

end Go.Proofs.YtlgoagkgmndchaaDoor.PA

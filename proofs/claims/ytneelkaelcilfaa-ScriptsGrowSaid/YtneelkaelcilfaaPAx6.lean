-- Laid by hprint.py (this session's program, over the kit's print) for the seat Ytneelkaelcilfaa. Lean checks it.
import Derived.Test.YtneelkaelcilfaaPAx0
import Derived.Test.YtneelkaelcilfaaPAx1
import Derived.Test.YtneelkaelcilfaaPAx2
import Derived.Test.YtneelkaelcilfaaPAx4
import Derived.Test.YtneelkaelcilfaaPAx5
namespace Go.Proofs.Ytneelkaelcilfaa.PA
open Go.RowKit Go.Proofs.YtneelkaelcilfaaW.PrintWords Go.Proofs.YtneelkaelcilfaaW.PrintLast Go.Proofs.YtneelkaelcilfaaW.PrintMore
attribute [local go_sem] max2_int min2_int max_two min_two max_three min_three max_four min_four   -- for this text's walks alone
set_option linter.unusedVariables false
set_option linter.unusedSimpArgs false

attribute [local go_sem high] eqA38
/-! ### prelude get -/
def getB : List Sp → Int → Int
  | [], _ => 0
  | x :: r, c => if x.f0 ≤ c ∧ c ≤ x.f1 then x.f2 else getB r c
def otherS : ByteArray := ⟨#[79, 116, 104, 101, 114]⟩
def getOf (names : List ByteArray) (spans : List Sp) (c : Int) : Int := if validB names spans = true then getB spans c else 0
def nameOf (names : List ByteArray) (spans : List Sp) (c : Int) : ByteArray := if validB names spans = true then names.getD (getB spans c).toNat ByteArray.empty else otherS
theorem spansB_cons (n : Nat) (p : Option Sp) (x : Sp) (r : List Sp) : spansB n p (x :: r) = (spanB n x && (match p with | none => true | some y => pairB y x) && spansB n (some x) r) := rfl
theorem getB_bd (n : Nat) (hn : 1 ≤ n) : ∀ (l : List Sp) (p : Option Sp), spansB n p l = true → ∀ c, 0 ≤ getB l c ∧ getB l c < (n : Int) := by
  intro l
  induction l with
  | nil => intro p h c; unfold getB; omega
  | cons x r ih =>
    intro p h c
    have h' := h
    rw [spansB_cons] at h'
    simp only [Bool.and_eq_true] at h'
    have hb := (spanB_iff _ _).1 h'.1.1
    unfold getB
    split
    · omega
    · exact ih _ h'.2 c
theorem valid_len {names : List ByteArray} {spans : List Sp} (h : validB names spans = true) : 1 ≤ names.length ∧ names.length ≤ 250 := by
  unfold validB namesB at h
  simp only [Bool.and_eq_true, decide_eq_true_eq] at h
  exact h.1.1
theorem valid_spans {names : List ByteArray} {spans : List Sp} (h : validB names spans = true) : spansB names.length none spans = true := by
  unfold validB at h
  simp only [Bool.and_eq_true] at h
  exact h.2
theorem get_bd {names : List ByteArray} {spans : List Sp} (h : validB names spans = true) (c : Int) : 0 ≤ getB spans c ∧ getB spans c < (names.length : Int) :=
  getB_bd _ (valid_len h).1 _ _ (valid_spans h) c
theorem bcell {W w1 : World} (hb : Below W.heap.size W w1) : (∀ b o, b < W.heap.size → w1.cell? ⟨b, o, none⟩ = W.cell? ⟨b, o, none⟩) ∧ (∀ b o, b < W.heap.size → w1.frozen? ⟨b, o, none⟩ = W.frozen? ⟨b, o, none⟩) :=
  ⟨fun b o h => hb.cell (p := ⟨b, o, none⟩) h, fun b o h => hb.frozen (p := ⟨b, o, none⟩) h⟩
theorem ret_int {k : IntKind} {a b : Int} (h : a = b) : Ending.returned (.int k a) = .returned (.int k b) := by rw [h]
theorem ret_bool {a b : Bool} (h : a = b) : Ending.returned (.bool a) = .returned (.bool b) := by rw [h]
theorem ret_str {a b : ByteArray} (h : a = b) : Ending.returned (.string a) = .returned (.string b) := by rw [h]

/-! ### prelude cont -/
def eqS (x y : ByteArray) : Bool := decide (x = y)
set_option maxHeartbeats 800000 in
theorem index_str (x : ByteArray) (A0 : Option Addr) (c0 : Nat) (l0 : List ByteArray) (w : World) (hr0 : Kd.C Kd.string w A0 l0.length l0) (hc0 : l0.length ≤ c0) :
    Calls Try.prog 50 #[.slice A0 l0.length c0, .string x] w fun e w' => e = .returned (.int .i64 (idxFrom (eqS x) l0 0)) ∧ Below w.heap.size w w' := by
  have R0 := Aside0.mk hr0
  have hm := hr0.2.1
  clear hr0
  go_enter Try.func50, Try.ntmps50
  go_wp2
  go_loopw [8] (fun i wr => ∃ (k : Nat), k ≤ l0.length ∧ i = .int .i64 k ∧ Aside0 (Below w.heap.size w wr) ∧ Aside0 (idxFrom (eqS x) (l0.drop k) k = idxFrom (eqS x) l0 0)) (fun i _ => l0.length - (intOf i).toNat)
  case atStart => exact ⟨0, Nat.zero_le _, rfl, ⟨Below.refl _ _⟩, ⟨rfl⟩⟩
  case round =>
    obtain ⟨k, hk, rfl, hB, hI⟩ := hrel
    by_cases hlt : k < l0.length
    · obtain ⟨ad, e, x0⟩ := Kd.at_string (Kd.C_below R0.out hB.out) (k : Int) (by omega) (by omega)
      cases e
      obtain ⟨y, hy⟩ : ∃ y, y = rdOf ByteArray.empty l0 (k : Int) := ⟨_, rfl⟩
      rw [← hy] at x0
      rw [show ((k : Int)).toNat = k from rfl] at x0
      have hd : Aside0 (l0.drop k = y :: l0.drop (k + 1)) := ⟨by rw [hy]; exact drop_at l0 ByteArray.empty k hlt⟩
      clear hy
      by_cases hxy : x = y
      · have t1 : (x.toList == y.toList) = true := by rw [hxy, beq_iff_eq]
        have t2 : x.toList = y.toList := by rw [hxy]
        have H := Aside0.mk hxy
        clear hxy
        go_wp2
        go_ret
        refine ⟨ret_int ?_, hB.out⟩
        rw [← hI.out, hd.out, idxFrom, if_pos (by unfold eqS; rw [decide_eq_true_eq]; exact H.out)]
      · have t1 : (x.toList == y.toList) = false := by rw [beq_eq_false_iff_ne]; exact fun h => hxy ((bs_eq x y).1 h)
        have t2 : ¬ x.toList = y.toList := fun h => hxy ((bs_eq x y).1 h)
        have H := Aside0.mk hxy
        clear hxy
        go_wp2
        refine ⟨⟨k + 1, by omega, by go_num, hB, ⟨?_⟩⟩, by simp [intOf]; omega⟩
        rw [← hI.out, hd.out, idxFrom, if_neg (by unfold eqS; rw [decide_eq_true_eq]; exact H.out)]
    · obtain rfl : k = l0.length := by omega
      go_wp2
      go_ret
      refine ⟨ret_int ?_, hB.out⟩
      rw [← hI.out, List.drop_length]; rfl
set_option maxHeartbeats 800000 in
theorem contains_str (x : ByteArray) (A0 : Option Addr) (c0 : Nat) (l0 : List ByteArray) (w : World) (hr0 : Kd.C Kd.string w A0 l0.length l0) (hc0 : l0.length ≤ c0) :
    Calls Try.prog 39 #[.slice A0 l0.length c0, .string x] w fun e w' => e = .returned (.bool (l0.any (eqS x))) ∧ Below w.heap.size w w' := by
  have H := Aside0.mk (index_str x A0 c0 l0 w hr0 hc0)
  have hi := Aside0.mk (idx_any (eqS x) l0 0)
  clear hr0
  go_enter Try.func39, Try.ntmps39
  go_wp2_with (go_at_call 50; refine H.out.mono ?_; rintro e w' ⟨rfl, hb⟩)
  go_ret
  exact ⟨ret_bool hi.out, hb⟩

/-! ### prelude idxint -/
set_option maxHeartbeats 1600000 in
set_option maxRecDepth 100000 in
theorem indexFunc_int (g : Nat) (lb : Array Value) (eg : ∀ args w, (callFunc g args).run Try.prog w = .ok (.enter g args) w) (p : Int → Bool) (A0 : Option Addr) (c0 : Nat) (l0 : List Int) (w : World) (hr0 : Kd.C (Kd.int .i64) w A0 l0.length l0) (hc0 : l0.length ≤ c0)
    (hp : ∀ (x : Int) (W : World), Below w.heap.size w W → Calls Try.prog g (#[.int .i64 x] ++ lb) W fun e w' => e = .returned (.bool (p x)) ∧ Below W.heap.size W w') :
    Calls Try.prog 49 #[.slice A0 l0.length c0, .func (.func g) #[] lb] w fun e w' => e = .returned (.int .i64 (idxFrom p l0 0)) ∧ Below w.heap.size w w' := by
  have R0 := Aside0.mk hr0
  have hm := hr0.2.1
  have HP := Aside0.mk hp
  clear hr0 hp
  go_enter Try.func49, Try.ntmps49
  go_wp2
  go_loopg [5, 8] l0.length (fun gg _ s8 wr => ∃ kk : Nat, kk ≤ l0.length ∧ l0.length - kk ≤ gg ∧ s8 = .int .i64 kk ∧ Aside0 (Below w.heap.size w wr) ∧ Aside0 (idxFrom p (l0.drop kk) kk = idxFrom p l0 0))
  case atStart => exact ⟨0, Nat.zero_le _, by omega, rfl, ⟨Below.refl _ _⟩, ⟨rfl⟩⟩
  case round =>
    obtain ⟨kk, hkk, hg, rfl, hB, hI⟩ := hrel
    by_cases hlt : kk < l0.length
    · obtain ⟨ad, e, x0⟩ := Kd.at_int (Kd.C_below R0.out hB.out) (kk : Int) (by omega) (by omega)
      cases e
      rw [show ((kk : Int)).toNat = kk from rfl] at x0
      obtain ⟨x, hx⟩ : ∃ x, x = rd l0 (kk : Int) := ⟨_, rfl⟩
      rw [← hx] at x0
      have hd : Aside0 (l0.drop kk = x :: l0.drop (kk + 1)) := ⟨by rw [hx]; exact drop_at l0 0 kk hlt⟩
      clear hx
      have hcall := HP.out x _ hB.out
      have hltz : (kk : Int) < (l0.length : Int) := by omega
      cases hq : p x with
      | true =>
        rw [hq] at hcall
        go_wp2_with (go_at_fn g; refine hcall.mono ?_; rintro e w' ⟨rfl, hb⟩)
        go_ret
        refine ⟨ret_int ?_, hB.out.trans (hb.mono hB.out.size)⟩
        rw [← hI.out, hd.out, idxFrom, if_pos hq]
      | false =>
        rw [hq] at hcall
        go_wp2_with (go_at_fn g; refine hcall.mono ?_; rintro e w' ⟨rfl, hb⟩)
        go_roundg (l0.length - (kk + 1))
        case measure => omega
        case rel =>
          refine ⟨kk + 1, by omega, by omega, by go_num, ⟨hB.out.trans (hb.mono hB.out.size)⟩, ⟨?_⟩⟩
          rw [← hI.out, hd.out, idxFrom, if_neg (by rw [hq]; decide)]
    · have hltz : ¬ (kk : Int) < (l0.length : Int) := by omega
      obtain rfl : kk = l0.length := by omega
      go_wp2
      go_ret
      refine ⟨ret_int ?_, hB.out⟩
      rw [← hI.out, List.drop_length]; rfl
set_option maxHeartbeats 800000 in
theorem containsFunc_int (g : Nat) (lb : Array Value) (eg : ∀ args w, (callFunc g args).run Try.prog w = .ok (.enter g args) w) (p : Int → Bool) (A0 : Option Addr) (c0 : Nat) (l0 : List Int) (w : World) (hr0 : Kd.C (Kd.int .i64) w A0 l0.length l0) (hc0 : l0.length ≤ c0)
    (hp : ∀ (x : Int) (W : World), Below w.heap.size w W → Calls Try.prog g (#[.int .i64 x] ++ lb) W fun e w' => e = .returned (.bool (p x)) ∧ Below W.heap.size W w') :
    Calls Try.prog 35 #[.slice A0 l0.length c0, .func (.func g) #[] lb] w fun e w' => e = .returned (.bool (l0.any p)) ∧ Below w.heap.size w w' := by
  have H := Aside0.mk (indexFunc_int g lb eg p A0 c0 l0 w hr0 hc0 hp)
  have hi := Aside0.mk (idx_any p l0 0)
  clear hr0 hp
  go_enter Try.func35, Try.ntmps35
  go_wp2_with (go_at_call 49; refine H.out.mono ?_; rintro e w' ⟨rfl, hb⟩)
  go_ret
  exact ⟨ret_bool hi.out, hb⟩

/-! ### prelude idxstr -/
set_option maxHeartbeats 1600000 in
set_option maxRecDepth 100000 in
theorem indexFunc_str (g : Nat) (lb : Array Value) (eg : ∀ args w, (callFunc g args).run Try.prog w = .ok (.enter g args) w) (p : ByteArray → Bool) (A0 : Option Addr) (c0 : Nat) (l0 : List ByteArray) (w : World) (hr0 : Kd.C Kd.string w A0 l0.length l0) (hc0 : l0.length ≤ c0)
    (hp : ∀ (x : ByteArray) (W : World), Below w.heap.size w W → Calls Try.prog g (#[.string x] ++ lb) W fun e w' => e = .returned (.bool (p x)) ∧ Below W.heap.size W w') :
    Calls Try.prog 43 #[.slice A0 l0.length c0, .func (.func g) #[] lb] w fun e w' => e = .returned (.int .i64 (idxFrom p l0 0)) ∧ Below w.heap.size w w' := by
  have R0 := Aside0.mk hr0
  have hm := hr0.2.1
  have HP := Aside0.mk hp
  clear hr0 hp
  go_enter Try.func43, Try.ntmps43
  go_wp2
  go_loopg [5, 8] l0.length (fun gg _ s8 wr => ∃ kk : Nat, kk ≤ l0.length ∧ l0.length - kk ≤ gg ∧ s8 = .int .i64 kk ∧ Aside0 (Below w.heap.size w wr) ∧ Aside0 (idxFrom p (l0.drop kk) kk = idxFrom p l0 0))
  case atStart => exact ⟨0, Nat.zero_le _, by omega, rfl, ⟨Below.refl _ _⟩, ⟨rfl⟩⟩
  case round =>
    obtain ⟨kk, hkk, hg, rfl, hB, hI⟩ := hrel
    by_cases hlt : kk < l0.length
    · obtain ⟨ad, e, x0⟩ := Kd.at_string (Kd.C_below R0.out hB.out) (kk : Int) (by omega) (by omega)
      cases e
      rw [show ((kk : Int)).toNat = kk from rfl] at x0
      obtain ⟨x, hx⟩ : ∃ x, x = rdOf ByteArray.empty l0 (kk : Int) := ⟨_, rfl⟩
      rw [← hx] at x0
      have hd : Aside0 (l0.drop kk = x :: l0.drop (kk + 1)) := ⟨by rw [hx]; exact drop_at l0 ByteArray.empty kk hlt⟩
      clear hx
      have hcall := HP.out x _ hB.out
      have hltz : (kk : Int) < (l0.length : Int) := by omega
      cases hq : p x with
      | true =>
        rw [hq] at hcall
        go_wp2_with (go_at_fn g; refine hcall.mono ?_; rintro e w' ⟨rfl, hb⟩)
        go_ret
        refine ⟨ret_int ?_, hB.out.trans (hb.mono hB.out.size)⟩
        rw [← hI.out, hd.out, idxFrom, if_pos hq]
      | false =>
        rw [hq] at hcall
        go_wp2_with (go_at_fn g; refine hcall.mono ?_; rintro e w' ⟨rfl, hb⟩)
        go_roundg (l0.length - (kk + 1))
        case measure => omega
        case rel =>
          refine ⟨kk + 1, by omega, by omega, by go_num, ⟨hB.out.trans (hb.mono hB.out.size)⟩, ⟨?_⟩⟩
          rw [← hI.out, hd.out, idxFrom, if_neg (by rw [hq]; decide)]
    · have hltz : ¬ (kk : Int) < (l0.length : Int) := by omega
      obtain rfl : kk = l0.length := by omega
      go_wp2
      go_ret
      refine ⟨ret_int ?_, hB.out⟩
      rw [← hI.out, List.drop_length]; rfl
set_option maxHeartbeats 800000 in
theorem containsFunc_str (g : Nat) (lb : Array Value) (eg : ∀ args w, (callFunc g args).run Try.prog w = .ok (.enter g args) w) (p : ByteArray → Bool) (A0 : Option Addr) (c0 : Nat) (l0 : List ByteArray) (w : World) (hr0 : Kd.C Kd.string w A0 l0.length l0) (hc0 : l0.length ≤ c0)
    (hp : ∀ (x : ByteArray) (W : World), Below w.heap.size w W → Calls Try.prog g (#[.string x] ++ lb) W fun e w' => e = .returned (.bool (p x)) ∧ Below W.heap.size W w') :
    Calls Try.prog 37 #[.slice A0 l0.length c0, .func (.func g) #[] lb] w fun e w' => e = .returned (.bool (l0.any p)) ∧ Below w.heap.size w w' := by
  have H := Aside0.mk (indexFunc_str g lb eg p A0 c0 l0 w hr0 hc0 hp)
  have hi := Aside0.mk (idx_any p l0 0)
  clear hr0 hp
  go_enter Try.func37, Try.ntmps37
  go_wp2_with (go_at_call 43; refine H.out.mono ?_; rintro e w' ⟨rfl, hb⟩)
  go_ret
  exact ⟨ret_bool hi.out, hb⟩

/-! ### prelude cbytes -/
theorem bapp (a b : List UInt8) : (⟨a.toArray⟩ : ByteArray) ++ ⟨b.toArray⟩ = ⟨(a ++ b).toArray⟩ := by
  apply ByteArray.ext
  rw [ByteArray.data_append]; simp
theorem bsize (a : List UInt8) : (⟨a.toArray⟩ : ByteArray).size = a.length := by show a.toArray.size = _; rw [List.size_toArray]
theorem bsum (a b : List UInt8) (ha : a.length ≤ 1000000) (hb : b.length ≤ 1000000) : (⟨a.toArray⟩ : ByteArray).size + (⟨b.toArray⟩ : ByteArray).size ≤ 9223372036854775807 := by rw [bsize, bsize]; omega
theorem bt_byte (s : ByteArray) (i : Nat) (hi : i < s.size) : bt s (i : Int) = ((s[i]'hi).toNat : Int) := by
  unfold bt; rw [dif_pos (show ((i : Int)).toNat < s.size from hi)]; rfl
theorem bdrop (s : ByteArray) (i : Nat) (hi : i < s.size) : s.data.toList.drop i = (s[i]'hi) :: s.data.toList.drop (i + 1) := by
  rw [List.drop_eq_getElem_cons (by rw [data_length]; exact hi)]; rfl

/-! ### unicodetextlaw40_few: function 10 -/
def unicodetextlaw40_few.f (l0_0 : List ByteArray) (l0_1 : List (S45)) (l1 : List Int) : Option (Bool) := if (l0_0.length : Int) ≤ 20 then (if (l0_1.length : Int) ≤ 16 then (some (decide ((l1.length : Int) ≤ 40))) else (some false)) else (some false)
set_option maxHeartbeats 8000000 in
set_option maxRecDepth 100000 in
theorem unicodetextlaw40_few.calls (A0_0 : Option Addr) (c0_0 : Nat) (l0_0 : List ByteArray) (A0_1 : Option Addr) (c0_1 : Nat) (l0_1 : List (S45)) (A1 : Option Addr) (c1 : Nat) (l1 : List Int) (r : Bool) (w : World) (hr0_0 : Kd.C Kd.string w A0_0 l0_0.length l0_0) (hc0_0 : l0_0.length ≤ c0_0) (hr0_1 : Kd.C k45 w A0_1 l0_1.length l0_1) (hc0_1 : l0_1.length ≤ c0_1) (hr1 : Kd.C (Kd.int .i64) w A1 l1.length l1) (hc1 : l1.length ≤ c1) (h : unicodetextlaw40_few.f l0_0 l0_1 l1 = some r) :
    Calls Try.prog 10 #[.agg #[.slice A0_0 l0_0.length c0_0, .slice A0_1 l0_1.length c0_1], .slice A1 l1.length c1] w fun e w' => e = .returned (.bool r) ∧ Below w.heap.size w w' := by
  have hu25 := Try.underlying25
  have HR0_0 := Aside0.mk hr0_0
  have HC0_0 := Aside0.mk hc0_0
  clear hr0_0 hc0_0
  have HR0_1 := Aside0.mk hr0_1
  have HC0_1 := Aside0.mk hc0_1
  clear hr0_1 hc0_1
  have HR1 := Aside0.mk hr1
  have HC1 := Aside0.mk hc1
  clear hr1 hc1
  have HB := Aside0.mk (Below.refl w.heap.size w)
  have H : (if (l0_0.length : Int) ≤ 20 then (if (l0_1.length : Int) ≤ 16 then (some (decide ((l1.length : Int) ≤ 40))) else (some false)) else (some false)) = some r := h
  clear h
  by_cases c3 : (l0_0.length : Int) ≤ 20
  · rw [if_pos c3] at H
    have c3b0 : decide ((l0_0.length : Int) ≤ 20) = true := decide_eq_true c3
    have c3b1 : decide (l0_0.length ≤ 20) = true := decide_eq_true (by omega)
    clear c3
    by_cases c4 : (l0_1.length : Int) ≤ 16
    · rw [if_pos c4] at H
      have c4b0 : decide ((l0_1.length : Int) ≤ 16) = true := decide_eq_true c4
      have c4b1 : decide (l0_1.length ≤ 16) = true := decide_eq_true (by omega)
      clear c4
      obtain rfl := Option.some.inj H
      go_enter Try.func10, Try.ntmps10
      go_wp2_with (first | ((with_reducible refine gate_dst (N := 2) rfl ?_); (try (refine gate_guard (by rfl) ?_; dsimp only)); refine box_event ?hg (N := 2) ?hd (cs := #[.slice A0_0 l0_0.length c0_0, .slice A0_1 l0_1.length c0_1]) (t := 25) ?hr ?_; (case hd => rfl); (case hg => rfl); (case hr => first | (go_simp; done) | (go_simp; rfl)); intro gb101 hg w5 hbox hb; have n0_ := Aside0.mk (below_step (by repeat (first | (with_reducible first | exact HB.out | apply below_alloc | apply pw_below_drewN | apply below_drew1) | exact HB.out)) hb); have n1_ := Aside0.mk (hbox); have n2_ := Aside0.mk ((by rw [hg]; exact (below_size (by repeat (first | (with_reducible first | exact HB.out | apply below_alloc | apply pw_below_drewN | apply below_drew1) | exact HB.out))) : w.heap.size ≤ gb101)); have n3_ := Aside0.mk ((by rw [hg]; exact (below_size (by repeat (first | (with_reducible first | exact HB.out | apply below_alloc | apply pw_below_drewN | apply below_drew1) | exact HB.out))) : w.heap.size ≤ gb101)); clear HB; have HB := n0_; have BK101 := n1_; have GW101 := n2_; have GE101 := n3_; clear n0_ n1_ n2_ n3_; clear hb hbox hg; have hcz6_0 : w5.cell? ⟨gb101, 0, none⟩ = some (.slice A0_0 l0_0.length c0_0) := (blk_cell BK101.out 0).trans rfl; have hcz6_1 : w5.cell? ⟨gb101, 1, none⟩ = some (.slice A0_1 l0_1.length c0_1) := (blk_cell BK101.out 1).trans rfl; have hfz6_0 := blk_frozen BK101.out 0; have hfz6_1 := blk_frozen BK101.out 1))
      go_ret
      exact ⟨by first | rfl | (simp [errW_none, errW_some] <;> rfl) | (simp [*, errW_none, errW_some] <;> rfl), by repeat (first | (with_reducible first | exact HB.out | apply below_alloc | apply pw_below_drewN | apply below_drew1 | refine below_set ?_ GE101.out) | exact HB.out)⟩
    · rw [if_neg c4] at H
      have c4b0 : decide ((l0_1.length : Int) ≤ 16) = false := decide_eq_false c4
      have c4b1 : decide (l0_1.length ≤ 16) = false := decide_eq_false (by omega)
      clear c4
      obtain rfl := Option.some.inj H
      go_enter Try.func10, Try.ntmps10
      go_wp2_with (first | ((with_reducible refine gate_dst (N := 2) rfl ?_); (try (refine gate_guard (by rfl) ?_; dsimp only)); refine box_event ?hg (N := 2) ?hd (cs := #[.slice A0_0 l0_0.length c0_0, .slice A0_1 l0_1.length c0_1]) (t := 25) ?hr ?_; (case hd => rfl); (case hg => rfl); (case hr => first | (go_simp; done) | (go_simp; rfl)); intro gb101 hg w7 hbox hb; have n0_ := Aside0.mk (below_step (by repeat (first | (with_reducible first | exact HB.out | apply below_alloc | apply pw_below_drewN | apply below_drew1) | exact HB.out)) hb); have n1_ := Aside0.mk (hbox); have n2_ := Aside0.mk ((by rw [hg]; exact (below_size (by repeat (first | (with_reducible first | exact HB.out | apply below_alloc | apply pw_below_drewN | apply below_drew1) | exact HB.out))) : w.heap.size ≤ gb101)); have n3_ := Aside0.mk ((by rw [hg]; exact (below_size (by repeat (first | (with_reducible first | exact HB.out | apply below_alloc | apply pw_below_drewN | apply below_drew1) | exact HB.out))) : w.heap.size ≤ gb101)); clear HB; have HB := n0_; have BK101 := n1_; have GW101 := n2_; have GE101 := n3_; clear n0_ n1_ n2_ n3_; clear hb hbox hg; have hcz8_0 : w7.cell? ⟨gb101, 0, none⟩ = some (.slice A0_0 l0_0.length c0_0) := (blk_cell BK101.out 0).trans rfl; have hcz8_1 : w7.cell? ⟨gb101, 1, none⟩ = some (.slice A0_1 l0_1.length c0_1) := (blk_cell BK101.out 1).trans rfl; have hfz8_0 := blk_frozen BK101.out 0; have hfz8_1 := blk_frozen BK101.out 1))
      go_ret
      exact ⟨by first | rfl | (simp [errW_none, errW_some] <;> rfl) | (simp [*, errW_none, errW_some] <;> rfl), by repeat (first | (with_reducible first | exact HB.out | apply below_alloc | apply pw_below_drewN | apply below_drew1 | refine below_set ?_ GE101.out) | exact HB.out)⟩
  · rw [if_neg c3] at H
    have c3b0 : decide ((l0_0.length : Int) ≤ 20) = false := decide_eq_false c3
    have c3b1 : decide (l0_0.length ≤ 20) = false := decide_eq_false (by omega)
    clear c3
    obtain rfl := Option.some.inj H
    go_enter Try.func10, Try.ntmps10
    go_wp2_with (first | ((with_reducible refine gate_dst (N := 2) rfl ?_); (try (refine gate_guard (by rfl) ?_; dsimp only)); refine box_event ?hg (N := 2) ?hd (cs := #[.slice A0_0 l0_0.length c0_0, .slice A0_1 l0_1.length c0_1]) (t := 25) ?hr ?_; (case hd => rfl); (case hg => rfl); (case hr => first | (go_simp; done) | (go_simp; rfl)); intro gb101 hg w9 hbox hb; have n0_ := Aside0.mk (below_step (by repeat (first | (with_reducible first | exact HB.out | apply below_alloc | apply pw_below_drewN | apply below_drew1) | exact HB.out)) hb); have n1_ := Aside0.mk (hbox); have n2_ := Aside0.mk ((by rw [hg]; exact (below_size (by repeat (first | (with_reducible first | exact HB.out | apply below_alloc | apply pw_below_drewN | apply below_drew1) | exact HB.out))) : w.heap.size ≤ gb101)); have n3_ := Aside0.mk ((by rw [hg]; exact (below_size (by repeat (first | (with_reducible first | exact HB.out | apply below_alloc | apply pw_below_drewN | apply below_drew1) | exact HB.out))) : w.heap.size ≤ gb101)); clear HB; have HB := n0_; have BK101 := n1_; have GW101 := n2_; have GE101 := n3_; clear n0_ n1_ n2_ n3_; clear hb hbox hg; have hcz10_0 : w9.cell? ⟨gb101, 0, none⟩ = some (.slice A0_0 l0_0.length c0_0) := (blk_cell BK101.out 0).trans rfl; have hcz10_1 : w9.cell? ⟨gb101, 1, none⟩ = some (.slice A0_1 l0_1.length c0_1) := (blk_cell BK101.out 1).trans rfl; have hfz10_0 := blk_frozen BK101.out 0; have hfz10_1 := blk_frozen BK101.out 1))
    go_ret
    exact ⟨by first | rfl | (simp [errW_none, errW_some] <;> rfl) | (simp [*, errW_none, errW_some] <;> rfl), by repeat (first | (with_reducible first | exact HB.out | apply below_alloc | apply pw_below_drewN | apply below_drew1 | refine below_set ?_ GE101.out) | exact HB.out)⟩

/-! ### unicodetextref30_SameRanges: function 13 -/
def unicodetextref30_SameRanges.l0 : Nat → List (S38) → List (S38) → Int → Option (Bool)
  | 0, _, _, _ => none
  | k + 1, x0, x1, x5 => if x5 < (x0.length : Int) then (if 0 ≤ x5 then (if x5 < (x1.length : Int) then (if (!(((rd_T38 x0 x5).f0) == ((rd_T38 x1 x5).f0)) || (!(((rd_T38 x0 x5).f1) == ((rd_T38 x1 x5).f1)))) = true then (some false) else (unicodetextref30_SameRanges.l0 k x0 x1 (wrap64 (x5 + 1)))) else (none)) else (none)) else (some true)
def unicodetextref30_SameRanges.f (k : Nat) (l0 : List (S38)) (l1 : List (S38)) : Option (Bool) := if (l0.length : Int) = (l1.length : Int) then (unicodetextref30_SameRanges.l0 k l0 l1 0) else (some false)
theorem unicodetextref30_SameRanges.mono_l : ∀ k, (∀ y0 y1 y2, LeO (unicodetextref30_SameRanges.l0 k y0 y1 y2) (unicodetextref30_SameRanges.l0 (k + 1) y0 y1 y2))
  | 0 => fun _ _ _ r h => by simp [unicodetextref30_SameRanges.l0] at h
  | k + 1 => by
    have ih0 := unicodetextref30_SameRanges.mono_l k
    · intro y0 y1 y2
      unfold unicodetextref30_SameRanges.l0
      repeat' first
      | (with_reducible exact ih0 _ _ _)
      | (with_reducible exact LeO.refl _)
      | (with_reducible exact LeO.none _)
      | (with_reducible refine LeO.ite ?_ ?_)
      | (with_reducible refine LeO.bind ?_ (fun _ => ?_))
      | exact ih0 _ _ _
      | exact LeO.none _
      | refine LeO.ite ?_ ?_
      | refine LeO.bind ?_ (fun _ => ?_)
theorem unicodetextref30_SameRanges.mono : ∀ a0 a1 k, LeO (unicodetextref30_SameRanges.f k a0 a1) (unicodetextref30_SameRanges.f (k + 1) a0 a1) := by
  intro a0 a1 k
  have ih0 := unicodetextref30_SameRanges.mono_l k
  unfold unicodetextref30_SameRanges.f
  repeat' first
      | (with_reducible exact ih0 _ _ _)
      | (with_reducible exact LeO.refl _)
      | (with_reducible exact LeO.none _)
      | (with_reducible refine LeO.ite ?_ ?_)
      | (with_reducible refine LeO.bind ?_ (fun _ => ?_))
      | exact ih0 _ _ _
      | exact LeO.none _
      | refine LeO.ite ?_ ?_
      | refine LeO.bind ?_ (fun _ => ?_)
set_option maxHeartbeats 8000000 in
set_option maxRecDepth 100000 in
theorem unicodetextref30_SameRanges.calls (k : Nat) (A0 : Option Addr) (c0 : Nat) (l0 : List (S38)) (A1 : Option Addr) (c1 : Nat) (l1 : List (S38)) (r : Bool) (w : World) (hr0 : Kd.C k38 w A0 l0.length l0) (hc0 : l0.length ≤ c0) (hr1 : Kd.C k38 w A1 l1.length l1) (hc1 : l1.length ≤ c1) (h : unicodetextref30_SameRanges.f k l0 l1 = some r) :
    Calls Try.prog 13 #[.slice A0 l0.length c0, .slice A1 l1.length c1] w fun e w' => e = .returned (.bool r) ∧ Drawn0 w w' := by
  have hu38 := Try.underlying38
  have HR0 := Aside0.mk hr0
  have HC0 := Aside0.mk hc0
  clear hr0 hc0
  have HR1 := Aside0.mk hr1
  have HC1 := Aside0.mk hc1
  clear hr1 hc1
  have H : (if (l0.length : Int) = (l1.length : Int) then (unicodetextref30_SameRanges.l0 k l0 l1 0) else (some false)) = some r := h
  clear h
  by_cases c3 : (l0.length : Int) = (l1.length : Int)
  · rw [if_pos c3] at H
    have c3b0 : ((l0.length : Int) == (l1.length : Int)) = true := beq_iff_eq.mpr c3
    have c3b1 : ((l0.length : Int) != (l1.length : Int)) = false := bne_eq_false_iff_eq.mpr c3
    have c3b2 : (l0.length == l1.length) = true := by first | simpa using c3 | (simp at c3 ⊢; omega)
    clear c3
    have H' := Aside0.mk H
    clear H
    go_enter Try.func13, Try.ntmps13
    go_wp2
    repeat (go_quiet (fail); try go_wp2)
    go_loopg [5] k (fun kq v5 w' => ∃ (x5_1 : Int), v5 = .int .i64 x5_1 ∧ Aside0 (unicodetextref30_SameRanges.l0 kq l0 l1 x5_1 = some r) ∧ Aside0 (kq ≤ k) ∧ Drawn0 w w')
    case atStart => exact ⟨(0), (by first | rfl | (simp; done) | (simp [*]; done)), H', ⟨Nat.le_refl _⟩, by repeat (first | exact Drawn0.refl _ | apply Drawn0.step)⟩
    case round =>
      clear H'
      try clear c1
      try clear p2
      try clear c3
      try clear c3b0
      try clear c3b1
      try clear c3b2
      obtain ⟨x5_1, rfl, HA, HK1, ⟨m1, rfl⟩⟩ := hrel
      cases gk with
      | zero => exact absurd HA.out (by simp [unicodetextref30_SameRanges.l0])
      | succ k1 =>
        have H := HA.out
        clear HA
        simp only [unicodetextref30_SameRanges.l0] at H
        by_cases c4 : x5_1 < (l0.length : Int)
        · rw [if_pos c4] at H
          have c4b0 : decide (x5_1 < (l0.length : Int)) = true := decide_eq_true c4
          clear c4
          by_cases c5 : 0 ≤ x5_1
          · rw [if_pos c5] at H
            have c5b0 : decide (0 ≤ x5_1) = true := decide_eq_true c5
            clear c5
            by_cases c6 : x5_1 < (l1.length : Int)
            · rw [if_pos c6] at H
              have c6b0 : decide (x5_1 < (l1.length : Int)) = true := decide_eq_true c6
              clear c6
              by_cases c7 : (!(((rd_T38 l0 x5_1).f0) == ((rd_T38 l1 x5_1).f0)) || (!(((rd_T38 l0 x5_1).f1) == ((rd_T38 l1 x5_1).f1)))) = true
              · rw [if_pos c7] at H
                have c7b0 : (!(((rd_T38 l0 x5_1).f0) == ((rd_T38 l1 x5_1).f0)) || (!(((rd_T38 l0 x5_1).f1) == ((rd_T38 l1 x5_1).f1)))) = true := c7
                clear c7
                obtain rfl := Option.some.inj H
                have p102 : 0 ≤ (x5_1 : Int) := of_decide_eq_true (by first | (with_reducible assumption) | assumption)
                have q102 : x5_1 < (l0.length : Int) := of_decide_eq_true (by first | (with_reducible assumption) | assumption)
                obtain ⟨ad102, e102, hx102_0, hx102_1⟩ := at_T38 HR0.out x5_1 p102 q102
                cases e102
                replace p102 := eq_true p102
                replace q102 := eq_true q102
                have p103 : 0 ≤ (x5_1 : Int) := of_decide_eq_true (by first | (with_reducible assumption) | assumption)
                have q103 : x5_1 < (l1.length : Int) := of_decide_eq_true (by first | (with_reducible assumption) | assumption)
                obtain ⟨ad103, e103, hx103_0, hx103_1⟩ := at_T38 HR1.out x5_1 p103 q103
                cases e103
                replace p103 := eq_true p103
                replace q103 := eq_true q103
                go_wp2
                repeat (go_quiet (fail); try go_wp2)
                go_ret
                exact ⟨by first | rfl | (simp; done) | (simp [*]; done), by repeat (first | exact Drawn0.refl _ | apply Drawn0.step)⟩
              · rw [if_neg c7] at H
                have c7b0 : (!(((rd_T38 l0 x5_1).f0) == ((rd_T38 l1 x5_1).f0)) || (!(((rd_T38 l0 x5_1).f1) == ((rd_T38 l1 x5_1).f1)))) = false := by simpa using c7
                clear c7
                have H' := Aside0.mk H
                clear H
                have p102 : 0 ≤ (x5_1 : Int) := of_decide_eq_true (by first | (with_reducible assumption) | assumption)
                have q102 : x5_1 < (l0.length : Int) := of_decide_eq_true (by first | (with_reducible assumption) | assumption)
                obtain ⟨ad102, e102, hx102_0, hx102_1⟩ := at_T38 HR0.out x5_1 p102 q102
                cases e102
                replace p102 := eq_true p102
                replace q102 := eq_true q102
                have p103 : 0 ≤ (x5_1 : Int) := of_decide_eq_true (by first | (with_reducible assumption) | assumption)
                have q103 : x5_1 < (l1.length : Int) := of_decide_eq_true (by first | (with_reducible assumption) | assumption)
                obtain ⟨ad103, e103, hx103_0, hx103_1⟩ := at_T38 HR1.out x5_1 p103 q103
                cases e103
                replace p103 := eq_true p103
                replace q103 := eq_true q103
                go_wp2
                repeat (go_quiet (fail); try go_wp2)
                go_roundg k1
                case measure => have := HK1.out; omega
                case rel => exact ⟨(wrap64 (x5_1 + 1)), (by first | rfl | (simp; done) | (simp [*]; done)), H', ⟨by have := HK1.out; omega⟩, by repeat (first | exact Drawn0.refl _ | apply Drawn0.step)⟩
            · rw [if_neg c6] at H
              exact absurd H (by simp)
          · rw [if_neg c5] at H
            exact absurd H (by simp)
        · rw [if_neg c4] at H
          have c4b0 : decide (x5_1 < (l0.length : Int)) = false := decide_eq_false c4
          clear c4
          obtain rfl := Option.some.inj H
          go_wp2
          repeat (go_quiet (fail); try go_wp2)
          go_ret
          exact ⟨by first | rfl | (simp; done) | (simp [*]; done), by repeat (first | exact Drawn0.refl _ | apply Drawn0.step)⟩
  · rw [if_neg c3] at H
    have c3b0 : ((l0.length : Int) == (l1.length : Int)) = false := beq_eq_false_iff_ne.mpr c3
    have c3b1 : ((l0.length : Int) != (l1.length : Int)) = true := bne_iff_ne.mpr c3
    have c3b2 : (l0.length == l1.length) = false := by first | simpa using c3 | (simp at c3 ⊢; omega)
    obtain rfl := Option.some.inj H
    go_enter Try.func13, Try.ntmps13
    go_wp2
    repeat (go_quiet (fail); try go_wp2)
    go_ret
    exact ⟨by first | rfl | (simp; done) | (simp [*]; done), by repeat (first | exact Drawn0.refl _ | apply Drawn0.step)⟩

/-! ### prelude cfunc -/
open Go.Shelf in
def cfuncRen : Go.Shelf.Ren := ⟨fun | 17 => 84 | 15 => 86 | 20 => 87 | n => n, fun | 9 => 9 | 23 => 102 | 4 => 4 | 3 => 3 | 0 => 0 | 21 => 21 | n => n, fun | n => n⟩
theorem cfuncLays : Go.Proofs.LaysGw.n17 Try.prog cfuncRen := {
  mixed := by kernel_rfl
  f15 := Try.func86.trans (congrArg some (by kernel_rfl))
  f17 := Try.func84.trans (congrArg some (by kernel_rfl))
  f20 := Try.func87.trans (congrArg some (by kernel_rfl))
  t0 := Try.underlying0
  a0 := Try.isAgg0
  z0 := Try.sizeOf0
  v0 := Try.zeroValue0
  i0 := by kernel_rfl
  t3 := Try.underlying3
  a3 := Try.isAgg3
  z3 := Try.sizeOf3
  v3 := Try.zeroValue3
  i3 := by kernel_rfl
  t4 := Try.underlying4
  a4 := Try.isAgg4
  z4 := Try.sizeOf4
  v4 := Try.zeroValue4
  i4 := by kernel_rfl
  t9 := Try.underlying9
  a9 := Try.isAgg9
  z9 := Try.sizeOf9
  v9 := Try.zeroValue9
  i9 := by kernel_rfl
  t21 := Try.underlying21
  a21 := Try.isAgg21
  z21 := Try.sizeOf21
  v21 := Try.zeroValue21
  i21 := by kernel_rfl
  t23 := Try.underlying102
  a23 := Try.isAgg102
  z23 := Try.sizeOf102
  v23 := Try.zeroValue102
  i23 := by kernel_rfl }
open Go.Shelf Go.Lib in
theorem containsFunc_calls (g : Nat) (lb : Array Value) (eg : ∀ args w, (callFunc g args).run Try.prog w = .ok (.enter g args) w) (p : Nat → Bool) (s : ByteArray) (w : World) (hp : PredAt Try.prog g lb encR p w) :
    Calls Try.prog 84 #[.string s, .func (.func g) #[] lb] w fun e w' => e = .returned (.bool (decide (0 ≤ Lib.idxFunc p true s))) ∧ Below w.heap.size w w' := Any.strings_ContainsFunc cfuncLays g lb eg p s w hp
def badRune (r : Nat) : Bool := !letterI (r : Int)
open Go.Lib in
theorem idxFunc_bad (s : ByteArray) : ∀ (f pos : Nat), pos ≤ s.size → s.size - pos ≤ f → decide (0 ≤ idxFuncFrom badRune true s f pos) = !(((bytesOf s).drop pos).all letterI) := by
  intro f
  induction f with
  | zero =>
    intro pos h1 h2
    rw [List.drop_of_length_le (by rw [bytesOf_length]; omega)]; rfl
  | succ f ih =>
    intro pos h1 h2
    unfold idxFuncFrom
    by_cases hp : pos < s.size
    · have hd := drop_at (bytesOf s) 0 pos (by rw [bytesOf_length]; exact hp)
      have hb : (bytesOf s).getD pos 0 = ((s[pos]'hp).toNat : Int) := by rw [← bt_nat]; exact (bt_at s (pos : Int) hp).symm
      rw [if_pos hp, hd, List.all_cons, hb]
      by_cases ha : (s[pos]'hp).toNat < 128
      · rw [decode_ascii s pos hp ha]
        cases hl : letterI ((s[pos]'hp).toNat : Int)
        · rw [if_pos (show badRune (s[pos]'hp).toNat = true by unfold badRune; rw [hl]; rfl), decide_eq_true (by omega)]; rfl
        · rw [if_neg (show ¬ badRune (s[pos]'hp).toNat = true by unfold badRune; rw [hl]; decide), ih (pos + 1) (by omega) (by omega)]; rfl
      · have hh := decode_high s pos hp (by omega)
        have l1 : letterI (((Utf8.decode s pos).1 : Nat) : Int) = false := by rcases letter_cases (((Utf8.decode s pos).1 : Nat) : Int) with h | h | h | h | h | h | h | h | h <;> first | exact h.2 | omega
        have l2 : letterI ((s[pos]'hp).toNat : Int) = false := by rcases letter_cases ((s[pos]'hp).toNat : Int) with h | h | h | h | h | h | h | h | h <;> first | exact h.2 | omega
        rw [if_pos (show badRune (Utf8.decode s pos).1 = true by unfold badRune; rw [l1]; rfl), decide_eq_true (by omega), l2]; rfl
    · rw [if_neg hp, List.drop_of_length_le (by rw [bytesOf_length]; omega)]; rfl

/-! ### property_named: function 81 -/
open Go.Shelf Go.Lib in
theorem named1_pays (w : World) : PredAt Try.prog 85 #[] encR badRune w := fun W r _ => by
  unfold FnGives
  rcases letter_cases (r : Int) with ⟨h, h'⟩ | ⟨h, h'⟩ | ⟨h, h'⟩ | ⟨h, h'⟩ | ⟨h, h'⟩ | ⟨h, h'⟩ | ⟨h, h'⟩ | ⟨h, h'⟩ | ⟨h, h'⟩
  all_goals
    have hq := Aside0.mk h'
    clear h'
    go_enter Try.func85, Try.ntmps85
    go_wp2
    all_goals first | (exfalso; omega) | (go_ret; exact ⟨ret_bool (by unfold badRune; rw [hq.out]; first | rfl | (simp; omega)), 0, rfl⟩)
def property_named.f (a0 : ByteArray) : Option Bool := some (wordB a0)
set_option maxHeartbeats 800000 in
set_option maxRecDepth 100000 in
theorem property_named.calls (a0 : ByteArray) (r : Bool) (w : World) (h : property_named.f a0 = some r) :
    Calls Try.prog 81 #[.string a0] w fun e w' => e = .returned (.bool r) ∧ Below w.heap.size w w' := by
  obtain rfl := Option.some.inj h
  clear h
  have hC := containsFunc_calls 85 #[] (enters_of Try.func85 (by kernel_rfl) rfl) badRune a0 w (named1_pays w)
  by_cases h1 : 1 ≤ a0.size
  · by_cases h2 : a0.size ≤ 32
    · go_enter Try.func81, Try.ntmps81
      go_wp2_with (go_at_call 84; refine hC.mono ?_; rintro e w' ⟨rfl, hb⟩)
      go_ret
      refine ⟨ret_bool ?_, hb⟩
      have e : decide (0 ≤ Lib.idxFunc badRune true a0) = !((bytesOf a0).all letterI) := idxFunc_bad a0 a0.size 0 (by omega) (by omega)
      unfold wordB
      rw [e, decide_eq_true h1, decide_eq_true h2, Bool.not_not]; rfl
    · go_enter Try.func81, Try.ntmps81
      go_wp2
      go_ret
      exact ⟨ret_bool (by unfold wordB; rw [decide_eq_false h2, Bool.and_false]; rfl), Below.refl _ _⟩
  · go_enter Try.func81, Try.ntmps81
    go_wp2
    go_ret
    exact ⟨ret_bool (by unfold wordB; rw [decide_eq_false h1]; rfl), Below.refl _ _⟩

/-! ### prelude bsearch -/
theorem ret_mb {m : Value} {a b : Bool} (h : a = b) : Ending.returned (.tuple #[m, .bool a]) = .returned (.tuple #[m, .bool b]) := by rw [h]
theorem shr_half (i j : Nat) (h : i ≤ 4611686018427387903) (h' : j ≤ 4611686018427387903) : (((i : Int) + (j : Int)) / 2) = ((i + j) / 2 : Nat) := by omega
set_option maxHeartbeats 1600000 in
set_option maxRecDepth 100000 in
theorem bsearch_calls (g : Nat) (eg : ∀ args w, (callFunc g args).run Try.prog w = .ok (.enter g args) w) (cf : Sp → Int) (A0 : Option Addr) (c0 : Nat) (l0 : List Sp) (t : Int) (I : Nat) (w : World) (hr0 : Kd.C k45 w A0 l0.length l0) (hc0 : l0.length ≤ c0)
    (hn : l0.length ≤ 4611686018427387903) (hI : I ≤ l0.length) (hcut : ∀ h, h < l0.length → (cf (l0.getD h z45) < 0 ↔ h < I))
    (hcmp : ∀ (a b c : Int) (W : World), Below w.heap.size w W → Calls Try.prog g #[.agg #[.int .i64 a, .int .i64 b, .int .i64 c], .int .i64 t] W fun e w' => e = .returned (.int .i64 (cf ⟨a, b, c⟩)) ∧ Below W.heap.size W w') :
    Calls Try.prog 59 #[.slice A0 l0.length c0, .int .i64 t, .func (.func g) #[] #[]] w fun e w' => e = .returned (.tuple #[.int .i64 I, .bool (decide (I < l0.length) && decide (cf (l0.getD I z45) = 0))]) ∧ Below w.heap.size w w' := by
  have R0 := Aside0.mk hr0
  have HC := Aside0.mk hcut
  have HM := Aside0.mk hcmp
  clear hr0 hcut hcmp
  go_enter Try.func59, Try.ntmps59
  go_wp2
  go_loopw [9, 10] (fun i j wr => ∃ (x y : Nat), x ≤ I ∧ I ≤ y ∧ y ≤ l0.length ∧ i = .int .i64 x ∧ j = .int .i64 y ∧ Aside0 (Below w.heap.size w wr)) (fun i j _ => (intOf j).toNat - (intOf i).toNat)
  case atStart => exact ⟨0, l0.length, Nat.zero_le _, hI, Nat.le_refl _, rfl, rfl, ⟨Below.refl _ _⟩⟩
  case round =>
    obtain ⟨x, y, h1, h2, h3, rfl, rfl, hB⟩ := hrel
    by_cases hlt : x < y
    · obtain ⟨m, hm⟩ : ∃ m, m = (x + y) / 2 := ⟨_, rfl⟩
      have m1 : x ≤ m := by omega
      have m2 : m < y := by omega
      have m3 : m < l0.length := by omega
      obtain ⟨ad, e, x0, x1, x2⟩ := at_T45 (Kd.C_below R0.out hB.out) (m : Int) (by omega) (by omega)
      cases e
      have HCm := HC.out m m3
      obtain ⟨s, hs⟩ : ∃ s, s = rd_T45 l0 (m : Int) := ⟨_, rfl⟩
      rw [show l0.getD m z45 = s from hs.symm] at HCm
      rw [← hs] at x0 x1 x2
      rw [show ((m : Int)).toNat = m from rfl] at x0 x1 x2
      clear hs
      cases s with | mk a b c =>
      dsimp only at x0 x1 x2
      have hcall := HM.out a b c wr hB.out
      rw [hm] at x0 x1 x2
      have HMM := Aside0.mk hm
      clear hm
      by_cases hneg : cf ⟨a, b, c⟩ < 0
      · have hmI : m < I := HCm.1 hneg
        clear HCm
        go_wp2_with (go_at_fn g; refine hcall.mono ?_; rintro e w1 ⟨rfl, hb1⟩)
        go_roundw
        case rel => exact ⟨m + 1, y, by omega, h2, h3, by rw [HMM.out]; simp, rfl, ⟨hB.out.trans (hb1.mono hB.out.size)⟩⟩
        case measure => simp [intOf]; have := HMM.out; omega
      · have hmI : I ≤ m := Nat.not_lt.1 fun h => hneg (HCm.2 h)
        clear HCm
        go_wp2_with (go_at_fn g; refine hcall.mono ?_; rintro e w1 ⟨rfl, hb1⟩)
        go_roundw
        case rel => exact ⟨x, m, h1, hmI, by omega, rfl, by rw [HMM.out]; simp, ⟨hB.out.trans (hb1.mono hB.out.size)⟩⟩
        case measure => simp [intOf]; have := HMM.out; omega
    · obtain rfl : x = I := by omega
      obtain rfl : x = y := by omega
      by_cases hin : x < l0.length
      · obtain ⟨ad, e, x0, x1, x2⟩ := at_T45 (Kd.C_below R0.out hB.out) (x : Int) (by omega) (by omega)
        cases e
        obtain ⟨s, hs⟩ : ∃ s, s = rd_T45 l0 (x : Int) := ⟨_, rfl⟩
        have HS := Aside0.mk (show l0.getD x z45 = s from hs.symm)
        rw [← hs] at x0 x1 x2
        rw [show ((x : Int)).toNat = x from rfl] at x0 x1 x2
        clear hs
        cases s with | mk a b c =>
        dsimp only at x0 x1 x2
        have hcall := HM.out a b c wr hB.out
        go_wp2_with (go_at_fn g; refine hcall.mono ?_; rintro e w1 ⟨rfl, hb1⟩)
        go_ret2
        refine ⟨?_, hB.out.trans (hb1.mono hB.out.size)⟩
        rw [HS.out, decide_eq_true hin]
        exact ret_mb (by rw [Bool.true_and]; rfl)
      · go_wp2
        go_ret2
        refine ⟨?_, hB.out⟩
        rw [decide_eq_false hin]; rfl

/-! ### prelude pindices -/
def inB (l : List ByteArray) (x : ByteArray) : Bool := l.any fun y => decide (y = x)
theorem inB_snoc (l : List ByteArray) (a x : ByteArray) : inB (l ++ [a]) x = (inB l x || decide (a = x)) := by
  unfold inB; rw [List.any_append]; simp
def PIdx (b : Bool) (w : World) (e : Ending) (w' : World) : Prop := ∃ m, e = .returned (.tuple #[m, .bool b]) ∧ Below w.heap.size w w'
set_option maxHeartbeats 1600000 in
set_option maxRecDepth 100000 in
theorem pindices_calls (A0 : Option Addr) (c0 : Nat) (l0 : List ByteArray) (w : World) (hr0 : Kd.C Kd.string w A0 l0.length l0) (hc0 : l0.length ≤ c0) (hz : sizesB l0 = true) :
    Calls Try.prog 73 #[.slice A0 l0.length c0] w (PIdx (namesB l0) w) := by
  have R0 := Aside0.mk hr0
  have hm := hr0.2.1
  have HZ := Aside0.mk hz
  clear hr0 hz
  have hmm : ∀ (W : World) (n : Int), (Instr.makeMap 88 (some (.int .i64 n))).run Try.prog W = .ok (.map (some W.heap.size)) (W.alloc (.map #[] 0)) := fun W n => by simp [Instr.makeMap, run_underlying Try.underlying88, asInt, asIntOf]
  go_enter Try.func73, Try.ntmps73
  go_wp2
  go_loopw [14] (fun i wr => ∃ (k : Nat) (f : ByteArray → Option Value), k ≤ l0.length ∧ i = .int .i64 k ∧ Aside0 (MapIs encS wr Try.prog 9 w.heap.size k f) ∧ Aside0 (∀ x, (f x).isSome = inB (l0.take k) x) ∧ Aside0 (freshB (l0.take k) (l0.drop k) = freshB [] l0) ∧ Aside0 (Below w.heap.size w wr)) (fun i _ => l0.length - (intOf i).toNat)
  case atStart => exact ⟨0, fun _ => none, Nat.zero_le _, rfl, ⟨MapIs.made w Try.prog 9⟩, ⟨fun _ => rfl⟩, ⟨rfl⟩, ⟨below_alloc (Below.refl _ _) _⟩⟩
  case round =>
    obtain ⟨k, f, hk, rfl, hM, hF, hfr, hB⟩ := hrel
    by_cases hlt : k < l0.length
    · obtain ⟨ad, e, x0⟩ := Kd.at_string (Kd.C_below R0.out hB.out) (k : Int) (by omega) (by omega)
      cases e
      obtain ⟨x, hx⟩ : ∃ x, x = rdOf ByteArray.empty l0 (k : Int) := ⟨_, rfl⟩
      have hxs : x.size ≤ 9223372036854775807 := by rw [hx]; exact sizes_at HZ.out k
      have hkey : keyOf Try.prog 9 (.string x) = some (encS x) := Go.WideMaps.keyOf_string_mk Try.underlying9 (by unfold maxLen; exact hxs)
      rw [← hx] at x0
      have hdrop : Aside0 (l0.drop k = x :: l0.drop (k + 1)) := ⟨by rw [hx]; exact drop_at l0 ByteArray.empty k hlt⟩
      have htake : Aside0 (l0.take (k + 1) = l0.take k ++ [x]) := ⟨by rw [hx, List.take_succ_eq_append_getElem hlt]; show _ = _ ++ [l0.getD k _]; rw [List.getD_eq_getElem?_getD, List.getElem?_eq_getElem hlt]; rfl⟩
      have hX := Aside0.mk hx
      have HK := Aside0.mk hkey
      clear hx hkey
      rw [show ((k : Int)).toNat = k from rfl] at x0
      cases hin : inB (l0.take k) x
      · have hs : (f x).isSome = false := (hF.out x).trans hin
        have HIN := Aside0.mk hin
        clear hin
        cases hw : wordB x
        · go_wp2_with (first | (at_lookup; refine wpList_mapis_ok _ rfl _ _ 88 rfl 9 3 law_str Try.underlying88 (zero_int _) w.heap.size k f rfl hM.out _ _ rfl HK.out ?_) | (go_at_call 81; refine (property_named.calls x false _ (by unfold property_named.f; rw [hw])).mono ?_; rintro e w1 ⟨rfl, hb1⟩))
          go_ret2
          refine ⟨.map none, ?_, hB.out.trans (hb1.mono hB.out.size)⟩
          have e : namesB l0 = false := by
            unfold namesB
            rw [← hfr.out, hdrop.out]
            unfold freshB
            rw [hw]; simp
          rw [e]; rfl
        · go_wp2_with (first | (at_lookup; refine wpList_mapis_ok _ rfl _ _ 88 rfl 9 3 law_str Try.underlying88 (zero_int _) w.heap.size k f rfl hM.out _ _ rfl HK.out ?_) | (go_at_call 81; refine (property_named.calls x true _ (by unfold property_named.f; rw [hw])).mono ?_; rintro e w1 ⟨rfl, hb1⟩) | (at_mapUpdate; refine wpList_mapis_upd _ rfl _ _ _ 88 rfl 9 3 law_str Try.underlying88 w.heap.size k f rfl (hM.out.below hb1) encS_inj (by unfold maxLen; omega) _ _ x rfl rfl HK.out (encS_key x) ?_; intro w2 hM2 hg2))
          go_roundw
          case rel =>
            refine ⟨k + 1, _, by omega, by go_num, ⟨hM2⟩, ⟨fun y => ?_⟩, ⟨?_⟩, ⟨?_⟩⟩
            · show ((if y = x then some (Value.int .i64 (k : Int)) else f y)).isSome = _
              rw [htake.out, inB_snoc]
              by_cases hy : y = x
              · subst hy; rw [if_pos rfl, decide_eq_true rfl, Bool.or_true]; rfl
              · rw [if_neg hy, decide_eq_false (fun e => hy e.symm), Bool.or_false]; exact hF.out y
            · rw [← hfr.out, hdrop.out, htake.out]
              conv => rhs; unfold freshB
              rw [hw]
              have e : ((l0.take k).any fun y => decide (y = x)) = false := HIN.out
              rw [e]; rfl
            · have hb := hB.out.trans (hb1.mono hB.out.size)
              exact hb.grown hg2 hb.size (fun j hj => by cases hj; exact Nat.le_refl _)
          case measure => simp [intOf]; omega
      · have hs : (f x).isSome = true := (hF.out x).trans hin
        have HIN := Aside0.mk hin
        clear hin
        go_wp2_with (first | (at_lookup; refine wpList_mapis_ok _ rfl _ _ 88 rfl 9 3 law_str Try.underlying88 (zero_int _) w.heap.size k f rfl hM.out _ _ rfl HK.out ?_))
        go_ret2
        refine ⟨.map none, ?_, hB.out⟩
        have e : namesB l0 = false := by
          unfold namesB
          rw [← hfr.out, hdrop.out]
          unfold freshB
          have e : ((l0.take k).any fun y => decide (y = x)) = true := HIN.out
          rw [e]; simp
        rw [e]; rfl
    · obtain rfl : k = l0.length := by omega
      have hfin : Aside0 (freshB [] l0 = true) := ⟨by rw [← hfr.out, List.drop_length]; unfold freshB; rfl⟩
      by_cases g1 : 1 ≤ l0.length
      · by_cases g2 : l0.length ≤ 250
        · go_wp2
          go_ret2
          refine ⟨.map (some w.heap.size), ?_, hB.out⟩
          have e : namesB l0 = true := by unfold namesB; rw [hfin.out, decide_eq_true g1, decide_eq_true g2]; rfl
          exact ret_mb (by rw [e]; exact decide_eq_true (by omega))
        · go_wp2
          go_ret2
          refine ⟨.map (some w.heap.size), ?_, hB.out⟩
          have e : namesB l0 = false := by unfold namesB; rw [decide_eq_false g2]; simp
          exact ret_mb (by rw [e]; exact decide_eq_false (by omega))
      · go_wp2
        go_ret2
        refine ⟨.map (some w.heap.size), ?_, hB.out⟩
        have e : namesB l0 = false := by unfold namesB; rw [decide_eq_false g1]; simp
        rw [e]; rfl

end Go.Proofs.Ytneelkaelcilfaa.PA

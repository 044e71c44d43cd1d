-- Laid by hprint.py (this session's program, over the kit's print) for the seat YtlgoagkgmndchaaDoor. Lean checks it.
import Derived.Test.YtlgoagkgmndchaaDoorPAx0
import Derived.Test.YtlgoagkgmndchaaDoorPAx1
import Derived.Test.YtlgoagkgmndchaaDoorPAx2
import Derived.Test.YtlgoagkgmndchaaDoorPAx4
import Derived.Test.YtlgoagkgmndchaaDoorPAx5
namespace Go.Proofs.YtlgoagkgmndchaaDoor.PA
open Go.RowKit Go.Proofs.YtlgoagkgmndchaaDoorW.PrintWords Go.Proofs.YtlgoagkgmndchaaDoorW.PrintLast Go.Proofs.YtlgoagkgmndchaaDoorW.PrintMore
attribute [local go_sem] max2_int min2_int max_two min_two max_three min_three max_four min_four   -- for this text's walks alone
set_option linter.unusedVariables false
set_option linter.unusedSimpArgs false

attribute [local go_sem high] eqA30
/-! ### charset_Encode: function 12 -/
def gB (g : Int → Option Int) (c : Int) : List UInt8 := match g c with | some x => [UInt8.ofNat x.toNat] | none => []
def replB (g : Int → Option Int) : List UInt8 := if (g 63).isSome = true then gB g 63 else gB g 26
def escS (x : Int) : ByteArray := ⟨#[92, 117, 123]⟩ ++ hexB x ++ ⟨#[125]⟩
def escB (g : Int → Option Int) (x : Int) : List UInt8 := (escS x).data.toList.flatMap fun b => gB g (b.toNat : Int)
def encG (g : Int → Option Int) (p : Int) : List Int → Nat → List UInt8 → ByteArray × Int × Int
  | [], _, acc => (⟨acc.toArray⟩, 0, 0)
  | x :: r, i, acc => if (g x).isSome = true then encG g p r (i + 1) (acc ++ gB g x) else if p = 1 then (⟨#[]⟩, 10, (i : Int)) else if p = 2 then encG g p r (i + 1) (acc ++ replB g) else if p = 4 then encG g p r (i + 1) (acc ++ escB g x) else encG g p r (i + 1) acc
theorem byteG_lt : ∀ (l : List Int) (i : Nat) (acc : Option Int) (x y : Int), (∀ z, acc = some z → 0 ≤ z ∧ z < ((i + l.length : Nat) : Int)) → byteG l i acc x = some y → 0 ≤ y ∧ y < ((i + l.length : Nat) : Int) := by
  intro l
  induction l with
  | nil => intro i acc x y h e; exact h y e
  | cons a r ih =>
    intro i acc x y h e
    rw [byteG] at e
    have := ih (i + 1) _ x y (fun z hz => by
      by_cases hc : a = x ∧ ¬ a = -1
      · rw [if_pos hc] at hz; injection hz with hz; rw [← hz]; constructor <;> omega
      · rw [if_neg hc] at hz; have := h z hz; rw [List.length_cons] at this; constructor <;> omega) e
    rw [List.length_cons]
    constructor <;> omega
theorem putB_bytes (g : Int → Option Int) (c : Int) (h : ∀ y, g c = some y → 0 ≤ y ∧ y < 256) : putB g c = Lib.byteCells (gB g c) := by
  unfold putB gB
  cases hg : g c with
  | none => rfl
  | some y =>
    have := h y hg
    show [Value.int .u8 y] = [Value.int .u8 ((UInt8.ofNat y.toNat).toNat : Nat)]
    have e : ((UInt8.ofNat y.toNat).toNat : Int) = y := by
      rw [UInt8.toNat_ofNat']
      omega
    rw [e]
theorem gB_len (g : Int → Option Int) (c : Int) : (gB g c).length ≤ 1 := by
  unfold gB; split <;> simp
def charset_Encode.f (l0_0 : List Int) (l1 : List Int) (a2 : Int) : Option (ByteArray × Int × Int) :=
  if intsB l0_0 = true ∧ intsB l1 = true ∧ l1.length ≤ 1000 then (if checkB l0_0 = 0 then (if 1 ≤ a2 ∧ a2 ≤ 4 then some (encG (byteOf l0_0) a2 l1 0 []) else some (⟨#[]⟩, 8, 0)) else some (⟨#[]⟩, 11, 0)) else none
theorem known_f (p : Int) : charset_known.f p = some (decide (1 ≤ p ∧ p ≤ 4)) := by
  unfold charset_known.f
  by_cases h1 : 1 ≤ p <;> by_cases h2 : p ≤ 4 <;> simp [h1, h2]
theorem check_len {l : List Int} (h : checkB l = 0) : l.length = 256 := by
  unfold checkB at h
  by_cases hc : l.length = 256
  · exact hc
  · rw [if_neg hc] at h; cases h
theorem ret_f {w w3 : World} (hz : w3.heap[w.heap.size + 1]? = some (.cells #[.int .i64 0, .int .i64 0] 30 (0, 0))) (x y : Value) :
    ((w3.setCell ⟨w.heap.size + 1, 0, none⟩ x).setCell ⟨w.heap.size + 1, 1, none⟩ y).heap[w.heap.size + 1]? = some (.cells #[x, y] 30 (0, 0)) := blk_set (blk_set hz 0 x) 1 y
theorem below_f {w w3 : World} (hb : Below w.heap.size w w3) (x y : Value) : Below w.heap.size w ((w3.setCell ⟨w.heap.size + 1, 0, none⟩ x).setCell ⟨w.heap.size + 1, 1, none⟩ y) :=
  (hb.setCell (Nat.le_succ _) _).setCell (Nat.le_succ _) _
theorem hexL_len : ∀ (k : Nat) (c : Int) (acc : List UInt8), (hexL k c acc).length ≤ acc.length + k := by
  intro k
  induction k with
  | zero => intro c acc; exact Nat.le_refl _
  | succ k ih =>
    intro c acc
    rw [hexL]
    split
    · have := ih (c / 16) (dgU (c % 16) :: acc)
      rw [List.length_cons] at this; omega
    · omega
theorem hexB_size (x : Int) : (hexB x).size ≤ 7 := by
  unfold hexB
  split
  · have := hexL_len 7 x []
    show (hexL 7 x []).toArray.size ≤ 7
    rw [List.size_toArray]; simpa using this
  · exact Nat.zero_le _
theorem dgU_lt (x : Int) (h0 : 0 ≤ x) (h1 : x < 16) : (dgU x).toNat < 128 := by
  unfold dgU
  rw [UInt8.toNat_ofNat']
  split <;> omega
theorem hexL_asc : ∀ (k : Nat) (c : Int) (acc : List UInt8), (∀ b ∈ acc, b.toNat < 128) → ∀ b ∈ hexL k c acc, b.toNat < 128 := by
  intro k
  induction k with
  | zero => intro c acc h; exact h
  | succ k ih =>
    intro c acc h
    rw [hexL]
    split
    · refine ih _ _ fun b hb => ?_
      rcases List.mem_cons.1 hb with rfl | hb
      · exact dgU_lt _ (by omega) (by omega)
      · exact h b hb
    · exact h
theorem hexB_asc (x : Int) : ∀ b ∈ (hexB x).data.toList, b.toNat < 128 := by
  unfold hexB
  split
  · exact hexL_asc 7 x [] (fun b hb => by cases hb)
  · intro b hb; cases hb
theorem asc_at (h s : ByteArray) (hs : s = ⟨#[92, 117, 123]⟩ ++ h ++ ⟨#[125]⟩) (ha : ∀ b ∈ h.data.toList, b.toNat < 128) (j : Nat) (hj : j < s.size) : (s[j]'hj).toNat < 128 := by
  have hm : (s[j]'hj) ∈ s.data.toList := by
    have : (s[j]'hj) = s.data.toList[j]'(by rw [Array.length_toList]; exact hj) := rfl
    rw [this]; exact List.getElem_mem _
  generalize (s[j]'hj) = b at hm ⊢
  rw [hs, ByteArray.data_append, ByteArray.data_append, Array.toList_append, Array.toList_append, List.mem_append, List.mem_append] at hm
  rcases hm with (h1 | h1) | h1
  · simp at h1
    rcases h1 with rfl | rfl | rfl <;> decide
  · exact ha _ h1
  · simp at h1
    rw [h1]; decide
theorem w64s (n : Nat) (h : n < 128) : wrap64 (n : Int) = (n : Int) := by unfold wrap64; omega
theorem iter_grown (w : World) (kI : Nat) (s : ByteArray) (pos : Nat) : w.grownBy (w.iterAt kI s pos) (some kI) :=
  ⟨rfl, rfl, rfl, by rw [Lib.iterAt_size]; exact Nat.le_refl _, fun k _ hk => Lib.iterAt_other w kI k s pos (fun e => hk (by rw [e]))⟩
theorem isPut_grown {bm hb : Nat} {bs : List Value} {w w' : World} {kI : Nat} {s : ByteArray} {pos : Nat} (h : IsPut bm hb bs w) (hk : w.heap[kI]? = some (.stringIter s pos)) (hkb : kI ≠ hb) (hg : w.grownBy w' (some kI)) : IsPut bm hb bs w' := by
  have step : ∀ p, PutAt bm hb p bs w → PutAt bm hb p bs w' := by
    rintro p ⟨v, h1, h2, h3, h4⟩
    refine ⟨v, blk_grown h1 hg (fun e => hkb (Option.some.inj e).symm), World.ownsRow.kept h2 hg ?_, h3, h4⟩
    rcases h2.2 with ⟨rfl, _⟩ | ⟨g, cap, cur, rfl, _, hc, _⟩
    · exact .inl rfl
    · right
      intro e
      have e2 : g = kI := by simpa [Value.ownBlock] using e
      rw [e2, hk] at hc
      cases hc
  rcases h with h | h
  · exact .inl (step _ h)
  · exact .inr (step _ h)
def EncAt (w : World) (bm hb : Nat) (f : Int → Option Value) (acc : List UInt8) (wr : World) : Prop :=
  IsPut bm hb (Lib.byteCells acc) wr ∧ MapIs encI wr Tryd.prog 3 bm 256 f ∧ wr.heap[w.heap.size + 1]? = some (.cells #[.int .i64 0, .int .i64 0] 30 (0, 0)) ∧ Below w.heap.size w wr
theorem enc_call {w wr : World} {bm hb : Nat} {f : Int → Option Value} {acc : List UInt8} (g : Int → Option Int) (c : Int) (hE : EncAt w bm hb f acc wr) (hf : ∀ x, f x = (g x).map u8V) (hgv : ∀ c y, g c = some y → 0 ≤ y ∧ y < 256) (h1 : w.heap.size + 1 < hb) (h2 : bm < hb) (hlen : acc.length + 1 ≤ 1000000) (hc : -9223372036854775808 ≤ c ∧ c ≤ 9223372036854775807) :
    Calls Tryd.prog 25 #[.pointer (some ⟨hb, 0, none⟩), .int .i64 c] wr fun e w' => e = .returned (.bool (g c).isSome) ∧ EncAt w bm hb f (acc ++ gB g c) w' ∧ Lib.OthersKept 5 (some hb) wr w' := by
  obtain ⟨e1, e2, e3, e4⟩ := hE
  refine (put_calls bm hb 256 f g _ c wr e1 e2 hf (by rw [Lib.byteCells_length]; exact hlen) hc).mono ?_
  rintro e w' ⟨rfl, hp, hb5, hk⟩
  refine ⟨rfl, ⟨?_, e2.same (hb5.block bm h2), (hb5.block _ h1).trans e3, e4.trans (hb5.mono (by omega))⟩, hk⟩
  rw [putB_bytes g c (hgv c)] at hp
  have : Lib.byteCells (acc ++ gB g c) = Lib.byteCells acc ++ Lib.byteCells (gB g c) := by unfold Lib.byteCells; rw [List.map_append]
  rw [this]; exact hp
theorem enc_iter {w wr : World} {bm hb : Nat} {f : Int → Option Value} {acc : List UInt8} (hE : EncAt w bm hb f acc wr) {kI : Nat} {s : ByteArray} {pos : Nat} (hk : wr.heap[kI]? = some (.stringIter s pos)) (h1 : w.heap.size + 1 < kI) (h2 : bm < kI) (h3 : kI ≠ hb) (pos' : Nat) : EncAt w bm hb f acc (wr.iterAt kI s pos') := by
  obtain ⟨e1, e2, e3, e4⟩ := hE
  have hg := iter_grown wr kI s pos'
  exact ⟨isPut_grown e1 hk h3 hg, e2.same (Lib.iterAt_other wr kI bm s pos' (by omega)), blk_grown e3 hg (by intro e; injection e with e; omega), e4.grown hg e4.size (fun j hj => by cases hj; omega)⟩
theorem enc_alloc {w wr : World} {bm hb : Nat} {f : Int → Option Value} {acc : List UInt8} (hE : EncAt w bm hb f acc wr) (o : Obj) : EncAt w bm hb f acc (wr.alloc o) := by
  obtain ⟨e1, e2, e3, e4⟩ := hE
  refine ⟨?_, e2.alloc o, blk_alloc e3 o, below_alloc e4 o⟩
  rcases e1 with ⟨v, h1, h2, h3, h4⟩ | ⟨v, h1, h2, h3, h4⟩
  · exact .inl ⟨v, blk_alloc h1 o, h2.alloc o, h3, h4⟩
  · exact .inr ⟨v, blk_alloc h1 o, h2.alloc o, h3, h4⟩
theorem enc_below {w wr w' : World} {bm hb : Nat} {f : Int → Option Value} {acc : List UInt8} (hE : EncAt w bm hb f acc wr) (hb' : Below wr.heap.size wr w') : EncAt w bm hb f acc w' := by
  obtain ⟨e1, e2, e3, e4⟩ := hE
  have hg := grown_of_below hb' none
  refine ⟨?_, e2.below hb', blk_below e3 hb', e4.trans (hb'.mono e4.size)⟩
  rcases e1 with ⟨v, h1, h2, h3, h4⟩ | ⟨v, h1, h2, h3, h4⟩
  · exact .inl ⟨v, blk_below h1 hb', World.ownsRow.kept h2 hg (by cases v.ownBlock <;> simp), h3, h4⟩
  · exact .inr ⟨v, blk_below h1 hb', World.ownsRow.kept h2 hg (by cases v.ownBlock <;> simp), h3, h4⟩
set_option maxHeartbeats 6400000 in
set_option maxRecDepth 100000 in
theorem charset_Encode.calls (A0_0 : Option Addr) (c0_0 : Nat) (l0_0 : List Int) (A1 : Option Addr) (c1 : Nat) (l1 : List Int) (a2 : Int) (r1 : ByteArray) (r2 : Int) (r3 : Int) (w : World) (hr0_0 : Kd.C (Kd.int .i64) w A0_0 l0_0.length l0_0) (hc0_0 : l0_0.length ≤ c0_0) (hr1 : Kd.C (Kd.int .i64) w A1 l1.length l1) (hc1 : l1.length ≤ c1) (h : charset_Encode.f l0_0 l1 a2 = some (r1, r2, r3)) :
    Calls Tryd.prog 12 #[.agg #[.slice A0_0 l0_0.length c0_0], .slice A1 l1.length c1, .int .i64 a2] w fun e w' => e = .returned (.tuple #[.string r1, .agg #[.int .i64 r2, .int .i64 r3]]) ∧ Below w.heap.size w w' := by
  unfold charset_Encode.f at h
  by_cases hp : intsB l0_0 = true ∧ intsB l1 = true ∧ l1.length ≤ 1000
  case neg => rw [if_neg hp] at h; cases h
  rw [if_pos hp] at h
  obtain ⟨hp0, hp1, hp2⟩ := hp
  have R0 := Aside0.mk hr0_0
  have R1 := Aside0.mk hr1
  have HP0 := Aside0.mk hp0
  have HP1 := Aside0.mk hp1
  have hck : charset_Check.f l0_0 = some (checkB l0_0) := by unfold charset_Check.f; rw [if_pos hp0]
  have HCK := Aside0.mk hck
  have HKN := Aside0.mk (known_f a2)
  have HH := Aside0.mk h
  clear hr0_0 hr1 hp0 hp1 hck h
  generalize hqq : checkB l0_0 = q at HCK HH
  have HQ := Aside0.mk hqq
  clear hqq
  go_enter Tryd.func12, Tryd.ntmps12
  by_cases hq : q = 0
  case neg =>
    have hh := HH.out
    rw [if_neg hq] at hh
    injection hh with hh
    injection hh with g1 g2
    injection g2 with g2 g3
    subst g1; subst g2; subst g3
    go_wp2_with (go_at_call 9; refine (charset_Check.calls _ _ _ _ _ (Kd.C_below R0.out (below_alloc (below_alloc (Below.refl _ _) _) _)) hc0_0 HCK.out).mono ?_; rintro e w1 ⟨rfl, hb⟩; have hft : w1.heap[w.heap.size + 1]? = some (.cells #[.int .i64 0, .int .i64 0] 30 (0, 0)) := blk_below (two_new w _ _).2 hb; have hB1 : Below w.heap.size w w1 := (below_alloc (below_alloc (Below.refl _ _) _) _).trans (hb.mono (by simp; omega)); have z1 := blk_cell hft 0; have z2 := blk_cell hft 1; have fz1 := blk_frozen hft 0; have fz2 := blk_frozen hft 1)
    refine bodyPost_ret (results_tc rfl _ _ (w.heap.size + 1) 30 _ (0, 0) _ rfl (ret_f hft _ _) Tryd.underlying30 rfl (by kernel_rfl)) rfl ?_
    exact ⟨rfl, below_f hB1 _ _⟩
  subst hq
  have hl256 := Aside0.mk (check_len HQ.out)
  have hh := HH.out
  rw [if_pos rfl] at hh
  by_cases hpol : 1 ≤ a2 ∧ a2 ≤ 4
  case neg =>
    rw [if_neg hpol] at hh
    injection hh with hh
    injection hh with g1 g2
    injection g2 with g2 g3
    subst g1; subst g2; subst g3
    rw [decide_eq_false hpol] at HKN
    clear hpol
    go_wp2_with (first | (go_at_call 9; refine (charset_Check.calls _ _ _ _ _ (Kd.C_below R0.out (below_alloc (below_alloc (Below.refl _ _) _) _)) hc0_0 HCK.out).mono ?_; rintro e w1 ⟨rfl, hb⟩; have hft : w1.heap[w.heap.size + 1]? = some (.cells #[.int .i64 0, .int .i64 0] 30 (0, 0)) := blk_below (two_new w _ _).2 hb; have hB1 : Below w.heap.size w w1 := (below_alloc (below_alloc (Below.refl _ _) _) _).trans (hb.mono (by simp; omega))) | (go_at_call 23; refine (charset_known.calls _ _ _ HKN.out).mono ?_; rintro e w2 ⟨rfl, hd⟩; have hb2 := hd.below; clear hd; have hft2 := blk_below hft hb2; have z1 := blk_cell hft2 0; have z2 := blk_cell hft2 1; have fz1 := blk_frozen hft2 0; have fz2 := blk_frozen hft2 1))
    refine bodyPost_ret (results_tc rfl _ _ (w.heap.size + 1) 30 _ (0, 0) _ rfl (ret_f hft2 _ _) Tryd.underlying30 rfl (by kernel_rfl)) rfl ?_
    exact ⟨rfl, below_f (hB1.trans (hb2.mono hB1.size)) _ _⟩
  rw [if_pos hpol] at hh
  have HG := Aside0.mk (Option.some.inj hh)
  have HPOL := Aside0.mk hpol
  rw [decide_eq_true hpol] at HKN
  clear hpol hh
  obtain ⟨g, hg⟩ : ∃ g, g = byteOf l0_0 := ⟨_, rfl⟩
  rw [← hg] at HG
  have hgv : ∀ c y, g c = some y → 0 ≤ y ∧ y < 256 := by
    intro c y e
    rw [hg] at e
    have := byteG_lt l0_0 0 none c y (fun z hz => by cases hz) e
    rw [hl256.out] at this
    exact ⟨this.1, by have := this.2; omega⟩
  have HGV := Aside0.mk hgv
  have HGG := Aside0.mk hg
  clear hgv hg
  go_wp2_with (first | (go_at_call 9; refine (charset_Check.calls _ _ _ _ _ (Kd.C_below R0.out (below_alloc (below_alloc (Below.refl _ _) _) _)) hc0_0 HCK.out).mono ?_; rintro e w1 ⟨rfl, hb⟩; have hft : w1.heap[w.heap.size + 1]? = some (.cells #[.int .i64 0, .int .i64 0] 30 (0, 0)) := blk_below (two_new w _ _).2 hb; have hB1 : Below w.heap.size w w1 := (below_alloc (below_alloc (Below.refl _ _) _) _).trans (hb.mono (by simp; omega)); have hbx : w1.cell? ⟨w.heap.size, 0, none⟩ = some (.slice A0_0 l0_0.length c0_0) := blk_cell (blk_below (two_new w _ _).1 hb) 0) | (go_at_call 23; refine (charset_known.calls _ _ _ HKN.out).mono ?_; rintro e w2 ⟨rfl, hd⟩; have hb2 := hd.below; clear hd; have hft2 := blk_below hft hb2; have hB2 := hB1.trans (hb2.mono hB1.size); have hbx2 := pw_cell_below hb2 hbx) | (go_at_call 24; refine (open_calls _ _ _ _ (Kd.C_below R0.out hB2) hc0_0 HP0.out (by rw [hl256.out]; omega)).mono ?_; rintro e w3 ⟨bm, f, rfl, hbm, hM, hf, hb3⟩))
  have h1 : w.heap.size + 1 < w3.heap.size := by have a := hb2.size; have b := hb3.size; have c := hb.size; simp at c; omega
  have h2 : bm < w3.heap.size := hM.lt
  have hE0 : EncAt w bm w3.heap.size f [] (w3.alloc (.cells #[.map (some bm), .pointer none, .slice none 0 0] 55)) :=
    ⟨.inl ⟨.slice none 0 0, blk_new _ _, World.ownsRow_nil _ _ _ _, by simp [Value.ownBlock], fun _ => rfl⟩, hM.alloc _, blk_alloc (blk_below hft2 hb3) _, below_alloc (hB2.trans (hb3.mono hB2.size)) _⟩
  have HE0 := Aside0.mk hE0
  have HF := Aside0.mk (show ∀ x, f x = (g x).map u8V from fun x => by rw [hf x, HGG.out])
  generalize hbe : w3.heap.size = hb' at h1 h2 HE0 ⊢
  clear hE0 hf hM hb hft hB1 hb2 hft2 hB2 hbx hbx2 hb3
  go_loopw [29] (fun i wr => ∃ (k : Nat) (acc : List UInt8), k ≤ l1.length ∧ i = .int .i64 k ∧ acc.length ≤ 20 * k ∧ Aside0 (encG g a2 (l1.drop k) k acc = (r1, r2, r3)) ∧ Aside0 (EncAt w bm hb' f acc wr)) (fun i _ => l1.length - (intOf i).toNat)
  case atStart => exact ⟨0, [], Nat.zero_le _, rfl, Nat.zero_le _, HG, HE0⟩
  case round =>
    obtain ⟨k, acc, hk, rfl, hal, hG, hE⟩ := hrel
    by_cases hlt : k < l1.length
    · obtain ⟨ad, e, x0⟩ := Kd.at_int (Kd.C_below R1.out hE.out.2.2.2) (k : Int) (by omega) (by omega)
      cases e
      obtain ⟨x, hx⟩ : ∃ x, x = rd l1 (k : Int) := ⟨_, rfl⟩
      rw [← hx, show ((k : Int)).toNat = k from rfl] at x0
      have hwf : -9223372036854775808 ≤ x ∧ x ≤ 9223372036854775807 := by rw [hx]; exact ints_at HP1.out k
      have hg := hG.out
      have hdr : l1.drop k = x :: l1.drop (k + 1) := by rw [hx]; exact drop_at l1 0 k hlt
      rw [hdr, encG] at hg
      have HC := Aside0.mk (enc_call g x hE.out HF.out HGV.out h1 h2 (by omega) hwf)
      have hgl := gB_len g x
      clear hx hdr hwf
      cases hs : (g x).isSome with
      | true =>
        rw [if_pos hs] at hg
        have HG2 := Aside0.mk hg
        rw [hs] at HC
        clear hg hs
        go_wp2_with (go_at_call 25; refine HC.out.mono ?_; rintro e w5 ⟨rfl, hE5, _⟩)
        go_roundw
        case rel => exact ⟨k + 1, acc ++ gB g x, by omega, by go_num, by rw [List.length_append]; omega, HG2, ⟨hE5⟩⟩
        case measure => simp [intOf]; omega
      | false =>
        rw [if_neg (by rw [hs]; decide)] at hg
        have hgn : gB g x = [] := by unfold gB; cases hgx : g x with
          | none => rfl
          | some y => rw [hgx] at hs; cases hs
        rw [hs, hgn, List.append_nil] at HC
        clear hs hgn hgl
        by_cases p1 : a2 = 1
        · rw [if_pos p1] at hg
          injection hg with g1 g2
          injection g2 with g2 g3
          have G3 := Aside0.mk g3
          subst g1; subst g2; subst p1
          clear g3
          go_wp2_with (go_at_call 25; refine HC.out.mono ?_; rintro e w5 ⟨rfl, hE5, _⟩; have hft5 := hE5.2.2.1; have z1 := blk_cell hft5 0; have z2 := blk_cell hft5 1; have fz1 := blk_frozen hft5 0; have fz2 := blk_frozen hft5 1)
          refine bodyPost_ret (results_tc rfl _ _ (w.heap.size + 1) 30 _ (0, 0) _ rfl (ret_f hft5 _ _) Tryd.underlying30 rfl (by kernel_rfl)) rfl ?_
          exact ⟨by rw [← G3.out]; rfl, below_f hE5.2.2.2 _ _⟩
        · rw [if_neg p1] at hg
          by_cases p2 : a2 = 2
          · rw [if_pos p2] at hg
            have HG2 := Aside0.mk hg
            subst p2
            clear hg
            cases h63 : (g 63).isSome with
            | true =>
              have hrp : replB g = gB g 63 := by unfold replB; rw [if_pos h63]
              have HRP := Aside0.mk hrp
              have hl63 := gB_len g 63
              clear hrp
              go_wp2_with fail
              refine HC.out.mono ?_
              rintro e w5 ⟨rfl, hE5, _⟩
              go_wp2_with fail
              refine (enc_call g 63 hE5 HF.out HGV.out h1 h2 (by omega) (by omega)).mono ?_
              rintro e w6 ⟨he, hE6, _⟩
              rw [h63] at he
              subst he
              go_wp2
              go_roundw
              case rel => exact ⟨k + 1, acc ++ gB g 63, by omega, by go_num, by rw [List.length_append]; omega, ⟨by rw [← HG2.out, HRP.out]⟩, ⟨hE6⟩⟩
              case measure => simp [intOf]; omega
            | false =>
              have hrp : replB g = gB g 26 := by unfold replB; rw [if_neg (by rw [h63]; decide)]
              have HRP := Aside0.mk hrp
              have hn63 : gB g 63 = [] := by unfold gB; cases hgx : g 63 with
                | none => rfl
                | some y => rw [hgx] at h63; cases h63
              have hl26 := gB_len g 26
              clear hrp
              go_wp2_with fail
              refine HC.out.mono ?_
              rintro e w5 ⟨rfl, hE5, _⟩
              go_wp2_with fail
              refine (enc_call g 63 hE5 HF.out HGV.out h1 h2 (by omega) (by omega)).mono ?_
              rintro e w6 ⟨he, hE6, _⟩
              rw [h63] at he
              subst he
              rw [hn63, List.append_nil] at hE6
              go_wp2_with fail
              refine (enc_call g 26 hE6 HF.out HGV.out h1 h2 (by omega) (by omega)).mono ?_
              rintro e w7 ⟨rfl, hE7, _⟩
              go_wp2
              go_roundw
              case rel => exact ⟨k + 1, acc ++ gB g 26, by omega, by go_num, by rw [List.length_append]; omega, ⟨by rw [← HG2.out, HRP.out]⟩, ⟨hE7⟩⟩
              case measure => simp [intOf]; omega
          · rw [if_neg p2] at hg
            by_cases p4 : a2 = 4
            · rw [if_pos p4] at hg
              have HG2 := Aside0.mk hg
              subst p4
              have hxs := hexB_size x
              have hxa := hexB_asc x
              have hhx : codepoint_Hex.f x = some (hexB x) := rfl
              have HES : Aside0 (escB g x = ((⟨#[92, 117, 123]⟩ ++ hexB x ++ ⟨#[125]⟩ : ByteArray).data.toList.flatMap fun b => gB g (b.toNat : Int))) := ⟨rfl⟩
              generalize hexB x = hxv at hxs hxa hhx HES
              have HXA := Aside0.mk hxa
              clear hxa
              have HX := Aside0.mk hhx
              clear hg hhx
              have s1 : (⟨#[92, 117, 123]⟩ : ByteArray).size + hxv.size ≤ 9223372036854775807 := by show 3 + hxv.size ≤ _; omega
              have s2 : ((⟨#[92, 117, 123]⟩ : ByteArray) ++ hxv).size + (⟨#[125]⟩ : ByteArray).size ≤ 9223372036854775807 := by rw [ByteArray.size_append]; show 3 + hxv.size + 1 ≤ _; omega
              go_wp2_with fail
              refine HC.out.mono ?_
              rintro e w5 ⟨rfl, hE5, _⟩
              go_wp2_with fail
              refine (codepoint_Hex.calls _ _ _ HX.out).mono ?_
              rintro e w6 ⟨rfl, hb6⟩
              have hE6 := enc_below hE5 hb6
              go_wp2
              obtain ⟨s, hs⟩ : ∃ s : ByteArray, s = ⟨#[92, 117, 123]⟩ ++ hxv ++ ⟨#[125]⟩ := ⟨_, rfl⟩
              rw [← hs]
              have hss : s.size ≤ 11 := by rw [hs, ByteArray.size_append, ByteArray.size_append]; show 3 + hxv.size + 1 ≤ 11; omega
              have HASC : Aside0 (∀ (j : Nat) (hj : j < s.size), (s[j]'hj).toNat < 128) := ⟨asc_at hxv s hs HXA.out⟩
              rw [← hs] at HES
              have hkn := hb6.size
              have hk1 : hb' < w6.heap.size := Nat.lt_of_lt_of_le (by rcases hE5.1 with ⟨v, q, _⟩ | ⟨v, q, _⟩ <;> exact blk_lt q) hkn
              clear hs s1 s2 hkn
              go_loopg [] s.size (fun gg wr => ∃ (pos : Nat) (acc' : List UInt8), pos ≤ s.size ∧ s.size - pos ≤ gg ∧ acc'.length ≤ acc.length + pos ∧ Aside0 (wr.heap[w6.heap.size]? = some (.stringIter s pos)) ∧ Aside0 (acc' ++ ((s.data.toList.drop pos).flatMap fun b => gB g (b.toNat : Int)) = acc ++ escB g x) ∧ Aside0 (EncAt w bm hb' f acc' wr))
              case atStart => exact ⟨0, acc, Nat.zero_le _, Nat.sub_le _ _, Nat.le_refl _, ⟨blk_new w6 (.stringIter s 0)⟩, ⟨by rw [HES.out]; rfl⟩, ⟨enc_alloc hE6 (.stringIter s 0)⟩⟩
              case round =>
                obtain ⟨pos, acc', hp, hgg, hal', hI, hA, hE'⟩ := hrel
                by_cases hlt2 : pos < s.size
                · have hnx := Lib.run_next_ascii_at (P := Tryd.prog) wr w6.heap.size s pos 0 hI.out hlt2 (HASC.out pos hlt2)
                  have hc128 := HASC.out pos hlt2
                  have hdr2 : Aside0 (s.data.toList.drop pos = (s[pos]'hlt2) :: s.data.toList.drop (pos + 1)) := ⟨by
                    rw [List.drop_eq_getElem_cons (by rw [Array.length_toList]; exact hlt2)]; rfl⟩
                  obtain ⟨cb, hcb⟩ : ∃ cb, cb = s[pos]'hlt2 := ⟨_, rfl⟩
                  rw [← hcb] at hnx hc128 hdr2
                  have hEi := enc_iter hE'.out hI.out (by omega) (by omega) (by omega) (pos + 1)
                  have hIi := Lib.iterAt_heap wr w6.heap.size s pos (pos + 1) hI.out
                  have HCC := Aside0.mk (enc_call g (cb.toNat : Int) hEi HF.out HGV.out h1 h2 (by omega) (by omega))
                  have hgl2 := gB_len g (cb.toNat : Int)
                  clear hcb
                  go_wp2_with fail
                  refine HCC.out.mono ?_
                  rintro e w7 ⟨rfl, hE7, hk7⟩
                  have hI7 := Lib.OthersKept.iter hk7 hIi (by omega)
                  go_wp2
                  go_roundg (s.size - (pos + 1))
                  case measure => omega
                  case rel =>
                    refine ⟨pos + 1, acc' ++ gB g (cb.toNat : Int), by omega, Nat.le_refl _, by rw [List.length_append]; omega, ⟨hI7⟩, ⟨?_⟩, ⟨hE7⟩⟩
                    rw [← hA.out, hdr2.out, List.flatMap_cons, List.append_assoc]
                · have hnx := Lib.run_next_end_at (P := Tryd.prog) wr w6.heap.size s pos 0 hI.out hlt2
                  have hacc : acc' = acc ++ escB g x := by
                    have := hA.out
                    rw [List.drop_of_length_le (by rw [Array.length_toList]; exact Nat.le_of_not_lt hlt2), List.flatMap_nil, List.append_nil] at this
                    exact this
                  have HACC := Aside0.mk hacc
                  have hle : acc'.length ≤ acc.length + 11 := by omega
                  clear hacc
                  go_wp2
                  go_roundw
                  case rel => exact ⟨k + 1, acc', by omega, by go_num, by omega, ⟨by rw [HACC.out]; exact HG2.out⟩, hE'⟩
                  case measure => simp [intOf]; omega
            · rw [if_neg p4] at hg
              have HG2 := Aside0.mk hg
              clear hg
              go_wp2_with (go_at_call 25; refine HC.out.mono ?_; rintro e w5 ⟨rfl, hE5, _⟩)
              go_roundw
              case rel => exact ⟨k + 1, acc, by omega, by go_num, by omega, HG2, ⟨hE5⟩⟩
              case measure => simp [intOf]; omega
    · have hdr : l1.drop k = [] := List.drop_of_length_le (by omega)
      have hg := hG.out
      rw [hdr, encG] at hg
      injection hg with g1 g2
      injection g2 with g2 g3
      subst g1; subst g2; subst g3
      have HS := Aside0.mk (string_calls bm hb' acc _ hE.out.1)
      clear hdr
      go_wp2_with (go_at_call 27; refine HS.out.mono ?_; rintro e w6 ⟨rfl, hb6⟩; have hft6 := (hb6.block _ h1).trans hE.out.2.2.1; have z1 := blk_cell hft6 0; have z2 := blk_cell hft6 1; have fz1 := blk_frozen hft6 0; have fz2 := blk_frozen hft6 1)
      refine bodyPost_ret (results_tc rfl _ _ (w.heap.size + 1) 30 _ (0, 0) _ rfl (ret_f hft6 _ _) Tryd.underlying30 rfl (by kernel_rfl)) rfl ?_
      exact ⟨rfl, below_f (hE.out.2.2.2.trans (hb6.mono (by omega))) _ _⟩

/-! ### prelude cdup -/
theorem dup_out : ∀ (suf pre : List Int) (x : Int), x ≠ -1 → dupI pre suf = false → (pre.any fun z => decide (z = x)) = true → (suf.any fun z => decide (z = x)) = false := by
  intro suf
  induction suf with
  | nil => intro pre x _ _ _; rfl
  | cons y r ih =>
    intro pre x hx hd hp
    rw [dupI, Bool.or_eq_false_iff] at hd
    have h1 : ¬ y = x := by
      intro e
      subst e
      have := hd.1
      rw [decide_eq_false hx, hp] at this
      exact absurd this (by decide)
    rw [List.any_cons, decide_eq_false h1, Bool.false_or]
    exact ih (pre ++ [y]) x hx hd.2 (by rw [any_snoc, hp, Bool.true_or])
theorem byteG_out : ∀ (suf : List Int) (i : Nat) (acc : Option Int) (x : Int), (suf.any fun z => decide (z = x)) = false → byteG suf i acc x = acc := by
  intro suf
  induction suf with
  | nil => intro i acc x _; rfl
  | cons y r ih =>
    intro i acc x h
    rw [List.any_cons, Bool.or_eq_false_iff] at h
    rw [byteG, if_neg (fun q => of_decide_eq_false h.1 q.1)]
    exact ih (i + 1) acc x h.2
theorem byteG_neg : ∀ (suf : List Int) (i : Nat) (acc : Option Int), byteG suf i acc (-1) = acc := by
  intro suf
  induction suf with
  | nil => intro i acc; rfl
  | cons y r ih =>
    intro i acc
    rw [byteG, if_neg (fun q => q.2 q.1)]
    exact ih (i + 1) acc
theorem byteG_in : ∀ (suf pre : List Int) (i : Nat) (acc : Option Int) (x : Int), 0 ≤ x → dupI pre suf = false → (suf.any fun z => decide (z = x)) = true → byteG suf i acc x = some (byteL suf i x) := by
  intro suf
  induction suf with
  | nil => intro pre i acc x _ _ h; rw [List.any_nil] at h; cases h
  | cons y r ih =>
    intro pre i acc x h0 hd h
    rw [dupI, Bool.or_eq_false_iff] at hd
    rw [byteG, byteL]
    by_cases e : y = x
    · have hy : ¬ y = -1 := by omega
      have c1 : y = x ∧ ¬ y = -1 := ⟨e, hy⟩
      have c2 : 0 ≤ x ∧ y = x := ⟨h0, e⟩
      rw [if_pos c1, if_pos c2]
      exact byteG_out r (i + 1) _ x (dup_out r (pre ++ [y]) x (by omega) hd.2 (by rw [any_snoc, decide_eq_true e, Bool.or_true]))
    · rw [if_neg (fun q => e q.1), if_neg (fun q => e q.2)]
      rw [List.any_cons, decide_eq_false e, Bool.false_or] at h
      exact ih (pre ++ [y]) (i + 1) acc x h0 hd.2 h
theorem check_ok {l : List Int} (h : checkB l = 0) : l.length = 256 ∧ l.any badI = false ∧ dupI [] l = false := by
  have hl := check_len h
  unfold checkB at h
  rw [if_pos hl] at h
  by_cases hb : l.any badI = true
  · rw [if_pos hb] at h; exact absurd h (by decide)
  · rw [if_neg hb] at h
    by_cases hd : dupI [] l = true
    · rw [if_pos hd] at h; exact absurd h (by decide)
    · exact ⟨hl, Bool.eq_false_iff.2 hb, Bool.eq_false_iff.2 hd⟩
theorem any_in {l : List Int} {x : Int} (h : (l.any fun z => decide (z = x)) = true) : x ∈ l := by
  obtain ⟨z, hz, e⟩ := List.any_eq_true.1 h
  rw [← of_decide_eq_true e]; exact hz

/-! ### prelude cdig -/
def digI (b : Int) : Int := if 48 ≤ b ∧ b ≤ 57 then b - 48 else if 65 ≤ b ∧ b ≤ 70 then b - 55 else -1
theorem digI_lt (b : Int) : -1 ≤ digI b ∧ digI b ≤ 15 := by unfold digI; split; omega; split <;> omega
theorem idx_dig : ∀ b : Fin 256, strings_IndexByte.f ⟨#[48, 49, 50, 51, 52, 53, 54, 55, 56, 57, 65, 66, 67, 68, 69, 70]⟩ (b.val : Int) = some (digI b.val) := by decide +kernel
theorem fin_of {b : Int} (h0 : 0 ≤ b) (h1 : b ≤ 255) : ∃ d : Fin 256, b = (d.val : Int) := ⟨⟨b.toNat, by omega⟩, by show b = ((b.toNat : Nat) : Int); omega⟩
theorem idx_f (b : Int) (h0 : 0 ≤ b) (h1 : b ≤ 255) : strings_IndexByte.f ⟨#[48, 49, 50, 51, 52, 53, 54, 55, 56, 57, 65, 66, 67, 68, 69, 70]⟩ b = some (digI b) := by
  obtain ⟨d, rfl⟩ := fin_of h0 h1
  exact idx_dig d
def valL : List UInt8 → Int → Option Int
  | [], c => some c
  | b :: r, c => if digI (b.toNat : Int) < 0 then none else valL r (16 * c + digI (b.toNat : Int))
def endP (s : ByteArray) : Option Int → Int × Int
  | none => (0, 3)
  | some c => if hexB c = s then (c, 0) else (0, 3)
def parseS (s : ByteArray) : Int × Int := if 4 ≤ s.size ∧ s.size ≤ 6 then endP s (valL s.data.toList 0) else (0, 3)
theorem pow16 {i : Nat} (h : i ≤ 6) : 16 ^ i ≤ 16777216 := by
  have := Nat.pow_le_pow_right (n := 16) (by decide) h
  have e : (16 : Nat) ^ 6 = 16777216 := by decide
  rw [e] at this; exact this
theorem hexL_min : ∀ (n : Nat) (c : Int) (acc : List UInt8), 4 ≤ acc.length + n → 4 ≤ (hexL n c acc).length := by
  intro n
  induction n with
  | zero => intro c acc h; exact h
  | succ n ih =>
    intro c acc h
    rw [hexL]
    split
    · exact ih _ _ (by rw [List.length_cons]; omega)
    · omega
theorem hexB_min (c : Int) : (hexB c).size = 0 ∨ 4 ≤ (hexB c).size := by
  unfold hexB
  split
  · right; rw [bsize]; exact hexL_min 7 c [] (by decide)
  · left; rfl
def endQ (s : ByteArray) : Option Int → Int × Int
  | none => (0, 3)
  | some c => if s.toList = [] then (0, 3) else if hexB c = s then (c, 0) else (0, 3)
theorem pparse_l0 (s : ByteArray) (hs : s.size ≤ 6) : ∀ (n i : Nat), i ≤ s.size → s.size - i = n → ∀ (c : Int) (k : Nat), 0 ≤ c → c < ((16 ^ i : Nat) : Int) → 2 * n + 1 < k → codepoint_Parse.l0 k s c (s.size : Int) (i : Int) = some (endQ s (valL (s.data.toList.drop i) c)) := by
  intro n
  induction n with
  | zero =>
    intro i h1 h2 c k h0 hc hk
    obtain ⟨k, rfl⟩ : ∃ m, k = m + 1 := ⟨k - 1, by omega⟩
    rw [codepoint_Parse.l0, if_neg (by omega), List.drop_of_length_le (by rw [data_length]; omega), valL, endQ]
    by_cases e0 : s.toList = []
    · rw [if_pos e0, if_pos e0]
    · rw [if_neg e0, if_neg e0]
      show (some (hexB c)).bind _ = _
      rw [Option.bind_some]
      by_cases e : hexB c = s
      · rw [if_pos e, if_pos (by rw [e])]
      · rw [if_neg e, if_neg (fun q => e ((bs_eq _ _).1 q))]
  | succ n ih =>
    intro i h1 h2 c k h0 hc hk
    obtain ⟨k, rfl⟩ : ∃ m, k = m + 2 := ⟨k - 2, by omega⟩
    have hi : i < s.size := by omega
    have hlt := (s[i]'hi).toNat_lt
    have hw : wrap64 ((i : Int) + 1) = ((i + 1 : Nat) : Int) := by unfold wrap64; omega
    have hd := digI_lt ((s[i]'hi).toNat : Int)
    have hp := pow16 (i := i) (by omega)
    have hps : 16 ^ (i + 1) = 16 ^ i * 16 := Nat.pow_succ 16 i
    have next : ∀ d : Int, digI ((s[i]'hi).toNat : Int) = d → 0 ≤ d → codepoint_Parse.l0 k s (16 * c + d) (s.size : Int) ((i + 1 : Nat) : Int) = some (endQ s (if digI ((s[i]'hi).toNat : Int) < 0 then none else valL (s.data.toList.drop (i + 1)) (16 * c + digI ((s[i]'hi).toNat : Int)))) := by
      intro d e hd0
      rw [e, if_neg (by omega)]
      exact ih (i + 1) (by omega) (by omega) _ k (by omega) (by rw [hps]; generalize 16 ^ i = P at hc hp ⊢; omega) (by omega)
    have bad : digI ((s[i]'hi).toNat : Int) = -1 → some ((0 : Int), (3 : Int)) = some (endQ s (if digI ((s[i]'hi).toNat : Int) < 0 then none else valL (s.data.toList.drop (i + 1)) (16 * c + digI ((s[i]'hi).toNat : Int)))) := by
      intro e
      rw [e, if_pos (by decide), endQ]
    rw [codepoint_Parse.l0, if_pos (by omega), if_pos (by omega), if_pos (by omega), bt_byte s i hi, bdrop s i hi, valL]
    have hb : 0 ≤ ((s[i]'hi).toNat : Int) ∧ ((s[i]'hi).toNat : Int) < 256 := by omega
    clear hlt
    generalize ((s[i]'hi).toNat : Int) = b at hb hd next bad ⊢
    by_cases a1 : b ≥ 48
    · rw [if_pos a1, codepoint_Parse.j1]
      by_cases a2 : b ≤ 57
      · rw [decide_eq_true a2, if_pos rfl, cw64 (c * 16) (by omega) (by omega), cw64 _ (by omega) (by omega), hw, show c * 16 + (b - 48) % 256 = 16 * c + (b - 48) from by omega]
        exact next _ (by unfold digI; rw [if_pos ⟨a1, a2⟩]) (by omega)
      · rw [decide_eq_false a2, if_neg (by decide)]
        by_cases a3 : b ≥ 65
        · rw [if_pos a3]
          by_cases a4 : b ≤ 70
          · rw [if_pos a4, cw64 (c * 16) (by omega) (by omega), cw64 (c * 16 + (b - 65) % 256) (by omega) (by omega), cw64 _ (by omega) (by omega), hw, show c * 16 + (b - 65) % 256 + 10 = 16 * c + (b - 55) from by omega]
            exact next _ (by unfold digI; rw [if_neg (fun q => a2 q.2), if_pos ⟨a3, a4⟩]) (by omega)
          · rw [if_neg a4]; exact bad (by unfold digI; rw [if_neg (fun q => a2 q.2), if_neg (fun q => a4 q.2)])
        · rw [if_neg a3]; exact bad (by unfold digI; rw [if_neg (fun q => a2 q.2), if_neg (fun q => a3 q.1)])
    · rw [if_neg a1, codepoint_Parse.j1, if_neg (by decide)]
      have e := bad (by unfold digI; rw [if_neg (fun q => a1 q.1), if_neg (fun q => by omega)])
      by_cases a3 : b ≥ 65
      · omega
      · rw [if_neg a3]; exact e
theorem pparse_f (s : ByteArray) (k : Nat) (hk : 20 < k) : codepoint_Parse.f k s = some (parseS s) := by
  unfold codepoint_Parse.f parseS
  by_cases h6 : s.size ≤ 6
  · have := pparse_l0 s h6 s.size 0 (Nat.zero_le _) rfl 0 k (by decide) (by decide) (by omega)
    rw [List.drop_zero] at this
    rw [if_neg (by omega)]
    refine this.trans ?_
    congr 1
    by_cases h4 : 4 ≤ s.size
    · rw [if_pos ⟨h4, h6⟩]
      cases valL s.data.toList 0 with
      | none => rfl
      | some c =>
        have hne : ¬ s.toList = [] := by
          rw [ByteArray.toList_eq]
          intro e
          have := data_length s
          rw [e] at this
          rw [List.length_nil] at this; omega
        rw [endQ, endP, if_neg hne]
    · rw [if_neg (fun q => h4 q.1)]
      cases valL s.data.toList 0 with
      | none => rfl
      | some c =>
        rw [endQ]
        by_cases e0 : s.toList = []
        · rw [if_pos e0]
        · rw [if_neg e0, if_neg]
          intro e
          have hm := hexB_min c
          rw [e] at hm
          rcases hm with hm | hm
          · apply e0
            rw [ByteArray.toList_eq]
            exact List.length_eq_zero_iff.1 (by rw [data_length]; exact hm)
          · exact h4 hm
  · rw [if_pos (by omega), if_neg (fun q => h6 q.2)]

/-! ### unicodetextlaw06_alive: function 11 -/
def unicodetextlaw06_alive.f  : Option (Bool) := (charset_Parse.f (⟨#[52, 49, 32, 48, 48, 52, 49, 10, 10, 51, 70, 32, 48, 48, 51, 70]⟩ : ByteArray)).bind fun bt125 => ((charset_Encode.f bt125.1 (([233, 65] : List Int)) 2).bind fun bt135 => (if (bt125.2.1 == 0 && (bt125.2.2 == 0)) = true then (if (bt125.1.length : Int) = 256 then ((charset_Check.f bt125.1).bind fun t139 => (if t139 = 0 then (if bt135.1.toList = ([63, 65] : List UInt8) then (some (bt135.2.1 == 0 && (bt135.2.2 == 0))) else (some false)) else (some false))) else (some false)) else (some false)))
set_option maxHeartbeats 8000000 in
set_option maxRecDepth 100000 in
theorem unicodetextlaw06_alive.calls  (r : Bool) (w : World) (h : unicodetextlaw06_alive.f  = some r) :
    Calls Tryd.prog 11 #[] w fun e w' => e = .returned (.bool r) ∧ Below w.heap.size w w' := by
  have hu24 := Tryd.underlying24
  have hu30 := Tryd.underlying30
  have HB := Aside0.mk (Below.refl w.heap.size w)
  have H : ((charset_Parse.f (⟨#[52, 49, 32, 48, 48, 52, 49, 10, 10, 51, 70, 32, 48, 48, 51, 70]⟩ : ByteArray)).bind fun bt125 => ((charset_Encode.f bt125.1 (([233, 65] : List Int)) 2).bind fun bt135 => (if (bt125.2.1 == 0 && (bt125.2.2 == 0)) = true then (if (bt125.1.length : Int) = 256 then ((charset_Check.f bt125.1).bind fun t139 => (if t139 = 0 then (if bt135.1.toList = ([63, 65] : List UInt8) then (some (bt135.2.1 == 0 && (bt135.2.2 == 0))) else (some false)) else (some false))) else (some false)) else (some false)))) = some r := h
  clear h
  replace H := Option.bind_eq_some_iff.mp H
  obtain ⟨⟨t125, t128, t129⟩, A10, H⟩ := H
  replace H : ((charset_Encode.f t125 (([233, 65] : List Int)) 2).bind fun bt135 => (if (t128 == 0 && (t129 == 0)) = true then (if (t125.length : Int) = 256 then ((charset_Check.f t125).bind fun t139 => (if t139 = 0 then (if bt135.1.toList = ([63, 65] : List UInt8) then (some (bt135.2.1 == 0 && (bt135.2.2 == 0))) else (some false)) else (some false))) else (some false)) else (some false))) = some r := H
  have A1 := Aside0.mk A10
  clear A10
  obtain ⟨y132, hy132⟩ : ∃ y_ : List Int, y_ = (([233, 65] : List Int)) := ⟨_, rfl⟩
  replace H : ((charset_Encode.f t125 y132 2).bind fun bt135 => (if (t128 == 0 && (t129 == 0)) = true then (if (t125.length : Int) = 256 then ((charset_Check.f t125).bind fun t139 => (if t139 = 0 then (if bt135.1.toList = ([63, 65] : List UInt8) then (some (bt135.2.1 == 0 && (bt135.2.2 == 0))) else (some false)) else (some false))) else (some false)) else (some false))) = some r := by first | (rw [hy132]; with_reducible exact H) | (have H2_ := (Option.bind_some _ _).symm.trans H; rw [hy132]; with_reducible exact H2_) | (have H2_ := (Option.bind_some _ _).symm.trans H; with_reducible exact H2_) | with_reducible exact H | (rw [hy132]; exact H) | exact H
  have Ny132 := Aside0.mk hy132
  clear hy132
  replace H := Option.bind_eq_some_iff.mp H
  obtain ⟨⟨t135, t136, t137⟩, A20, H⟩ := H
  replace H : (if (t128 == 0 && (t129 == 0)) = true then (if (t125.length : Int) = 256 then ((charset_Check.f t125).bind fun t139 => (if t139 = 0 then (if t135.toList = ([63, 65] : List UInt8) then (some (t136 == 0 && (t137 == 0))) else (some false)) else (some false))) else (some false)) else (some false)) = some r := H
  have A2 := Aside0.mk A20
  clear A20
  by_cases c3 : (t128 == 0 && (t129 == 0)) = true
  · rw [if_pos c3] at H
    have c3b0 : (t128 == 0 && (t129 == 0)) = true := c3
    (try (have c3b1 : decide (t128 = 0 && (t129 == 0)) = true := by simpa using c3))
    (try (have c3b2 : (t128 == 0 && (t129 == 0)) = true := by simpa using c3))
    clear c3
    by_cases c4 : (t125.length : Int) = 256
    · rw [if_pos c4] at H
      have c4b0 : ((t125.length : Int) == 256) = true := beq_iff_eq.mpr c4
      have c4b1 : ((t125.length : Int) != 256) = false := bne_eq_false_iff_eq.mpr c4
      clear c4
      replace H := Option.bind_eq_some_iff.mp H
      obtain ⟨t139, A50, H⟩ := H
      replace H : (if t139 = 0 then (if t135.toList = ([63, 65] : List UInt8) then (some (t136 == 0 && (t137 == 0))) else (some false)) else (some false)) = some r := H
      have A5 := Aside0.mk A50
      clear A50
      by_cases c6 : t139 = 0
      · rw [if_pos c6] at H
        have c6b0 : (t139 == 0) = true := beq_iff_eq.mpr c6
        have c6b1 : (t139 != 0) = false := bne_eq_false_iff_eq.mpr c6
        clear c6
        by_cases c7 : t135.toList = ([63, 65] : List UInt8)
        · rw [if_pos c7] at H
          have c7b0 : (t135.toList == ([63, 65] : List UInt8)) = true := beq_iff_eq.mpr c7
          have c7b1 : (t135.toList != ([63, 65] : List UInt8)) = false := bne_eq_false_iff_eq.mpr c7
          clear c7
          obtain rfl := Option.some.inj H
          go_enter Tryd.func11, Tryd.ntmps11
          go_wp2_with (first | ((with_reducible refine gate_callee (f := 14) rfl ?_); refine goesL_ (some 6) rfl rfl Tryd.func14 (by kernel_rfl) rfl #[.string (⟨#[52, 49, 32, 48, 48, 52, 49, 10, 10, 51, 70, 32, 48, 48, 51, 70]⟩ : ByteArray)] rfl (by (try simp only [List.map_toArray, List.map_cons, List.map_nil]); first | done | rfl | (simp only [List.length_drop, List.length_take]; rfl)) ?_; (with_reducible refine (charset_Parse.calls (⟨#[52, 49, 32, 48, 48, 52, 49, 10, 10, 51, 70, 32, 48, 48, 51, 70]⟩ : ByteArray) t125 t128 t129 _ A1.out).mono ?_); rintro e w8 ⟨v126, rfl, ho0, hb⟩; refine ⟨_, rfl, ?_⟩; have n0_ := Aside0.mk (Kd.R_lower ho0 (below_size (by repeat (first | (with_reducible first | exact HB.out | apply below_alloc | apply pw_below_drewN | apply below_drew1) | exact HB.out)))); have n1_ := Aside0.mk (below_step (by repeat (first | (with_reducible first | exact HB.out | apply below_alloc | apply pw_below_drewN | apply below_drew1) | exact HB.out)) hb); clear HB; have HO127 := n0_; have HB := n1_; clear n0_ n1_; (try clear hb); (try clear hb2); (try clear hk); (try clear hi); (try clear ho0)) | ((with_reducible refine gate_dst (N := 1) rfl ?_); (try (refine gate_guard (by rfl) ?_; dsimp only)); refine box_event ?hg (N := 1) ?hd (cs := #[.slice none 0 0]) (t := 24) ?hr ?_; (case hd => rfl); (case hg => rfl); (case hr => first | (go_simp; done) | (go_simp; rfl)); intro gb130 hg w9 hbox hb; have n0_ := Aside0.mk (Kd.R_below (by (with_reducible repeat (first | apply Kd.R_alloc | apply Kd.R_drewN | apply Kd.R_drew)); exact HO127.out) hb); have n1_ := Aside0.mk (below_step (by repeat (first | (with_reducible first | exact HB.out | apply below_alloc | apply pw_below_drewN | apply below_drew1) | exact HB.out)) hb); have n2_ := Aside0.mk (hbox); have n3_ := Aside0.mk ((by rw [hg]; exact (below_size (by repeat (first | (with_reducible first | exact HB.out | apply below_alloc | apply pw_below_drewN | apply below_drew1) | exact HB.out))) : w.heap.size ≤ gb130)); have n4_ := Aside0.mk ((by rw [hg]; exact (below_size (by repeat (first | (with_reducible first | exact HB.out | apply below_alloc | apply pw_below_drewN | apply below_drew1) | exact HB.out))) : w.heap.size ≤ gb130)); clear HO127; clear HB; have HO127 := n0_; have HB := n1_; have BK130 := n2_; have GW130 := n3_; have GE130 := n4_; clear n0_ n1_ n2_ n3_ n4_; clear hb hbox hg) | ((with_reducible refine gate_dst (N := 2) rfl ?_); (try (refine gate_guard (by rfl) ?_; dsimp only)); refine box_event ?hg (N := 2) ?hd (cs := #[.int .i64 0, .int .i64 0]) (t := 30) ?hr ?_; (case hd => rfl); (case hg => rfl); (case hr => first | (go_simp; done) | (go_simp; rfl)); intro gb131 hg w10 hbox hb; have n0_ := Aside0.mk (Kd.R_below (by (with_reducible repeat (first | apply Kd.R_alloc | apply Kd.R_drewN | apply Kd.R_drew)); exact HO127.out) hb); have n1_ := Aside0.mk (blk_below (g := gb130) (o := .cells #[.slice none 0 0] 24 (0, 0)) (by (with_reducible repeat (first | refine blk_drewN ?_ _ | refine blk_drew ?_ | refine blk_alloc ?_ _)); exact BK130.out) hb); have n2_ := Aside0.mk (below_step (by repeat (first | (with_reducible first | exact HB.out | apply below_alloc | apply pw_below_drewN | apply below_drew1 | refine below_set ?_ GE130.out) | exact HB.out)) hb); have n3_ := Aside0.mk (hbox); have n4_ := Aside0.mk ((by rw [hg]; exact (below_size (by repeat (first | (with_reducible first | exact HB.out | apply below_alloc | apply pw_below_drewN | apply below_drew1 | refine below_set ?_ GE130.out) | exact HB.out))) : w.heap.size ≤ gb131)); have n5_ := Aside0.mk ((by rw [hg]; exact (below_size (by repeat (first | (with_reducible first | exact HB.out | apply below_alloc | apply pw_below_drewN | apply below_drew1 | refine below_set ?_ GE130.out) | exact HB.out))) : w.heap.size ≤ gb131)); have n6_ := Aside0.mk ((by rw [hg]; exact Nat.ne_of_lt (blk_lt (g := gb130) (o := .cells #[.slice none 0 0] 24 (0, 0)) (by (with_reducible repeat (first | refine blk_drewN ?_ _ | refine blk_drew ?_ | refine blk_alloc ?_ _)); exact BK130.out)) : gb130 ≠ gb131)); have n7_ := Aside0.mk ((by rw [hg]; exact Nat.ne_of_gt (blk_lt (g := gb130) (o := .cells #[.slice none 0 0] 24 (0, 0)) (by (with_reducible repeat (first | refine blk_drewN ?_ _ | refine blk_drew ?_ | refine blk_alloc ?_ _)); exact BK130.out)) : gb131 ≠ gb130)); clear HO127; clear BK130; clear HB; have HO127 := n0_; have BK130 := n1_; have HB := n2_; have BK131 := n3_; have GW131 := n4_; have GE131 := n5_; have NB130_131 := n6_; have NB131_130 := n7_; clear n0_ n1_ n2_ n3_ n4_ n5_ n6_ n7_; clear hb hbox hg; obtain ⟨Ao11, co11, eo11⟩ := Kd.R_slice HO127.out; subst eo11; have hnb12 := NB130_131.out; have hnc12 := NB131_130.out; have hcz13_0 : w10.cell? ⟨gb130, 0, none⟩ = some (.slice none 0 0) := (blk_cell BK130.out 0).trans rfl; have hfz13_0 := blk_frozen BK130.out 0; have hcz14_0 : w10.cell? ⟨gb131, 0, none⟩ = some (.int .i64 0) := (blk_cell BK131.out 0).trans rfl; have hcz14_1 : w10.cell? ⟨gb131, 1, none⟩ = some (.int .i64 0) := (blk_cell BK131.out 1).trans rfl; have hfz14_0 := blk_frozen BK131.out 0; have hfz14_1 := blk_frozen BK131.out 1) | ((with_reducible refine gate_dst (N := 11) rfl ?_); (try (refine gate_guard (by rfl) ?_; dsimp only)); refine Kd.R_lit (Kd.int .i64) _ 3 ?hg (N := 11) ?hd (xs := ([233, 65] : List Int)) (inner := [.int .i64 233, .int .i64 65]) (ok := fun _ => True) (okp := fun _ => True) ?hr ?hp (fun _ hk => hk) trivial (Below.refl _ _) (Nat.le_refl _) (by simp) ?_; (case hd => rfl); (case hg => rfl); (case hr => first | (go_simp; done) | (go_simp; rfl)); (case hp => exact (Reps.one (show Kd.M (Kd.int .i64) _ _ _ 233 [.int .i64 233] from rfl) (Reps.one (show Kd.M (Kd.int .i64) _ _ _ 65 [.int .i64 65] from rfl) (Reps.none _ _)))); intro v133 w15 ho16 hb hg_ hnew_; clear hg_ hnew_; (first | rw [← Ny132.out] at ho16 | (simp only [Int.reduceToNat] at ho16; rw [← Ny132.out] at ho16)); have n0_ := Aside0.mk (Kd.R_elder' (by (with_reducible repeat (first | apply Kd.R_alloc | apply Kd.R_drewN | apply Kd.R_drew)); exact (Kd.R_mono (Kd.R_mono (Kd.R_far (p := ⟨gb131, 1, none⟩) (Kd.R_far (p := ⟨gb131, 0, none⟩) (Kd.R_far (p := ⟨gb130, 0, none⟩) (Kd.R_types (Kd.R_types HO127.out BK130.out (by decide)) BK131.out (by decide)) (fun _ hk => hk.1.2) (.slice Ao11 t125.length co11)) (fun _ hk => hk.2) (.int .i64 t128)) (fun _ hk => hk.2) (.int .i64 t129)) (fun _ h_ => h_.1)) (fun _ h_ => h_.1))) (Kd.R_base ho16) hb); have n1_ := Aside0.mk (Kd.R_lower (Kd.R_new' ho16 (Kd.R_lt (by (with_reducible repeat (first | apply Kd.R_alloc | apply Kd.R_drewN | apply Kd.R_drew)); exact (Kd.R_mono (Kd.R_mono (Kd.R_far (p := ⟨gb131, 1, none⟩) (Kd.R_far (p := ⟨gb131, 0, none⟩) (Kd.R_far (p := ⟨gb130, 0, none⟩) (Kd.R_types (Kd.R_types HO127.out BK130.out (by decide)) BK131.out (by decide)) (fun _ hk => hk.1.2) (.slice Ao11 t125.length co11)) (fun _ hk => hk.2) (.int .i64 t128)) (fun _ hk => hk.2) (.int .i64 t129)) (fun _ h_ => h_.1)) (fun _ h_ => h_.1))))) (below_size (by repeat (first | (with_reducible first | exact HB.out | apply below_alloc | apply pw_below_drewN | apply below_drew1 | refine below_set ?_ GE130.out | refine below_set ?_ GE131.out) | exact HB.out)))); have n2_ := Aside0.mk (blk_below (g := gb130) (o := .cells #[.slice Ao11 t125.length co11] 24 (0, 0)) (by (with_reducible repeat (first | refine blk_drewN ?_ _ | refine blk_drew ?_ | refine blk_alloc ?_ _)); refine blk_far ?_ NB130_131.out _; (with_reducible repeat (first | refine blk_drewN ?_ _ | refine blk_drew ?_ | refine blk_alloc ?_ _)); refine blk_far ?_ NB130_131.out _; (with_reducible repeat (first | refine blk_drewN ?_ _ | refine blk_drew ?_ | refine blk_alloc ?_ _)); refine blk_put (cs := #[.slice none 0 0]) ?_ 0 _ rfl; (with_reducible repeat (first | refine blk_drewN ?_ _ | refine blk_drew ?_ | refine blk_alloc ?_ _)); exact BK130.out) hb); have n3_ := Aside0.mk (blk_below (g := gb131) (o := .cells #[.int .i64 t128, .int .i64 t129] 30 (0, 0)) (by (with_reducible repeat (first | refine blk_drewN ?_ _ | refine blk_drew ?_ | refine blk_alloc ?_ _)); refine blk_put (cs := #[.int .i64 t128, .int .i64 0]) ?_ 1 _ rfl; (with_reducible repeat (first | refine blk_drewN ?_ _ | refine blk_drew ?_ | refine blk_alloc ?_ _)); refine blk_put (cs := #[.int .i64 0, .int .i64 0]) ?_ 0 _ rfl; (with_reducible repeat (first | refine blk_drewN ?_ _ | refine blk_drew ?_ | refine blk_alloc ?_ _)); refine blk_far ?_ NB131_130.out _; (with_reducible repeat (first | refine blk_drewN ?_ _ | refine blk_drew ?_ | refine blk_alloc ?_ _)); exact BK131.out) hb); have n4_ := Aside0.mk (below_step (by repeat (first | (with_reducible first | exact HB.out | apply below_alloc | apply pw_below_drewN | apply below_drew1 | refine below_set ?_ GE130.out | refine below_set ?_ GE131.out) | exact HB.out)) hb); clear HO127; clear BK130; clear BK131; clear HB; have HO127 := n0_; have HO134 := n1_; have BK130 := n2_; have BK131 := n3_; have HB := n4_; clear n0_ n1_ n2_ n3_ n4_; clear hb ho16; obtain ⟨Ao17, co17, eo17⟩ := Kd.R_slice HO134.out; subst eo17) | ((with_reducible refine gate_callee (f := 12) rfl ?_); refine goesL_ (some 12) rfl rfl Tryd.func12 (by kernel_rfl) rfl #[.agg #[.slice Ao11 t125.length co11], .slice Ao17 y132.length co17, .int .i64 2] rfl (by (try simp only [List.map_toArray, List.map_cons, List.map_nil]); first | done | rfl | (simp only [List.length_drop, List.length_take]; rfl)) ?_; (with_reducible refine (charset_Encode.calls _ _ t125 _ _ y132 2 t135 t136 t137 _ ?side1 ?side2 ?side3 ?side4 A2.out).mono ?_); (case side1 => repeat (first | exact (Kd.R_reads' HO127.out).2.2 | (with_reducible refine Kd.C_alloc ?_ _) | (with_reducible refine Kd.C_drewN ?_ _) | (with_reducible refine Kd.C_drew ?_))); (case side2 => exact (Kd.R_reads' HO127.out).2.1); (case side3 => repeat (first | exact (Kd.R_reads' HO134.out).2.2 | (with_reducible refine Kd.C_alloc ?_ _) | (with_reducible refine Kd.C_drewN ?_ _) | (with_reducible refine Kd.C_drew ?_))); (case side4 => exact (Kd.R_reads' HO134.out).2.1); rintro e w18 ⟨rfl, hb⟩; refine ⟨_, rfl, ?_⟩; have n0_ := Aside0.mk (Kd.R_below (by (with_reducible repeat (first | apply Kd.R_alloc | apply Kd.R_drewN | apply Kd.R_drew)); exact HO127.out) hb); have n1_ := Aside0.mk (Kd.R_below (by (with_reducible repeat (first | apply Kd.R_alloc | apply Kd.R_drewN | apply Kd.R_drew)); exact HO134.out) hb); have n2_ := Aside0.mk (blk_below (g := gb130) (o := .cells #[.slice Ao11 t125.length co11] 24 (0, 0)) (by (with_reducible repeat (first | refine blk_drewN ?_ _ | refine blk_drew ?_ | refine blk_alloc ?_ _)); exact BK130.out) hb); have n3_ := Aside0.mk (blk_below (g := gb131) (o := .cells #[.int .i64 t128, .int .i64 t129] 30 (0, 0)) (by (with_reducible repeat (first | refine blk_drewN ?_ _ | refine blk_drew ?_ | refine blk_alloc ?_ _)); exact BK131.out) hb); have n4_ := Aside0.mk (below_step (by repeat (first | (with_reducible first | exact HB.out | apply below_alloc | apply pw_below_drewN | apply below_drew1 | refine below_set ?_ GE130.out | refine below_set ?_ GE131.out) | exact HB.out)) hb); clear HO127; clear HO134; clear BK130; clear BK131; clear HB; have HO127 := n0_; have HO134 := n1_; have BK130 := n2_; have BK131 := n3_; have HB := n4_; clear n0_ n1_ n2_ n3_ n4_; (try clear hb); (try clear hb2); (try clear hk); (try clear hi)) | ((with_reducible refine gate_dst (N := 4) rfl ?_); (try (refine gate_guard (by rfl) ?_; dsimp only)); refine box_event ?hg (N := 4) ?hd (cs := #[.int .i64 0, .int .i64 0]) (t := 30) ?hr ?_; (case hd => rfl); (case hg => rfl); (case hr => first | (go_simp; done) | (go_simp; rfl)); intro gb138 hg w19 hbox hb; have n0_ := Aside0.mk (Kd.R_below (by (with_reducible repeat (first | apply Kd.R_alloc | apply Kd.R_drewN | apply Kd.R_drew)); exact HO127.out) hb); have n1_ := Aside0.mk (Kd.R_below (by (with_reducible repeat (first | apply Kd.R_alloc | apply Kd.R_drewN | apply Kd.R_drew)); exact HO134.out) hb); have n2_ := Aside0.mk (blk_below (g := gb130) (o := .cells #[.slice Ao11 t125.length co11] 24 (0, 0)) (by (with_reducible repeat (first | refine blk_drewN ?_ _ | refine blk_drew ?_ | refine blk_alloc ?_ _)); exact BK130.out) hb); have n3_ := Aside0.mk (blk_below (g := gb131) (o := .cells #[.int .i64 t128, .int .i64 t129] 30 (0, 0)) (by (with_reducible repeat (first | refine blk_drewN ?_ _ | refine blk_drew ?_ | refine blk_alloc ?_ _)); exact BK131.out) hb); have n4_ := Aside0.mk (below_step (by repeat (first | (with_reducible first | exact HB.out | apply below_alloc | apply pw_below_drewN | apply below_drew1 | refine below_set ?_ GE130.out | refine below_set ?_ GE131.out) | exact HB.out)) hb); have n5_ := Aside0.mk (hbox); have n6_ := Aside0.mk ((by rw [hg]; exact (below_size (by repeat (first | (with_reducible first | exact HB.out | apply below_alloc | apply pw_below_drewN | apply below_drew1 | refine below_set ?_ GE130.out | refine below_set ?_ GE131.out) | exact HB.out))) : w.heap.size ≤ gb138)); have n7_ := Aside0.mk ((by rw [hg]; exact (below_size (by repeat (first | (with_reducible first | exact HB.out | apply below_alloc | apply pw_below_drewN | apply below_drew1 | refine below_set ?_ GE130.out | refine below_set ?_ GE131.out) | exact HB.out))) : w.heap.size ≤ gb138)); have n8_ := Aside0.mk ((by rw [hg]; exact Nat.ne_of_lt (blk_lt (g := gb130) (o := .cells #[.slice Ao11 t125.length co11] 24 (0, 0)) (by (with_reducible repeat (first | refine blk_drewN ?_ _ | refine blk_drew ?_ | refine blk_alloc ?_ _)); exact BK130.out)) : gb130 ≠ gb138)); have n9_ := Aside0.mk ((by rw [hg]; exact Nat.ne_of_gt (blk_lt (g := gb130) (o := .cells #[.slice Ao11 t125.length co11] 24 (0, 0)) (by (with_reducible repeat (first | refine blk_drewN ?_ _ | refine blk_drew ?_ | refine blk_alloc ?_ _)); exact BK130.out)) : gb138 ≠ gb130)); have n10_ := Aside0.mk ((by rw [hg]; exact Nat.ne_of_lt (blk_lt (g := gb131) (o := .cells #[.int .i64 t128, .int .i64 t129] 30 (0, 0)) (by (with_reducible repeat (first | refine blk_drewN ?_ _ | refine blk_drew ?_ | refine blk_alloc ?_ _)); exact BK131.out)) : gb131 ≠ gb138)); have n11_ := Aside0.mk ((by rw [hg]; exact Nat.ne_of_gt (blk_lt (g := gb131) (o := .cells #[.int .i64 t128, .int .i64 t129] 30 (0, 0)) (by (with_reducible repeat (first | refine blk_drewN ?_ _ | refine blk_drew ?_ | refine blk_alloc ?_ _)); exact BK131.out)) : gb138 ≠ gb131)); clear HO127; clear HO134; clear BK130; clear BK131; clear HB; have HO127 := n0_; have HO134 := n1_; have BK130 := n2_; have BK131 := n3_; have HB := n4_; have BK138 := n5_; have GW138 := n6_; have GE138 := n7_; have NB130_138 := n8_; have NB138_130 := n9_; have NB131_138 := n10_; have NB138_131 := n11_; clear n0_ n1_ n2_ n3_ n4_ n5_ n6_ n7_ n8_ n9_ n10_ n11_; clear hb hbox hg; have hnb20 := NB138_130.out; have hnc20 := NB130_138.out; have hnb21 := NB138_131.out; have hnc21 := NB131_138.out; have hcz22_0 : w19.cell? ⟨gb138, 0, none⟩ = some (.int .i64 0) := (blk_cell BK138.out 0).trans rfl; have hcz22_1 : w19.cell? ⟨gb138, 1, none⟩ = some (.int .i64 0) := (blk_cell BK138.out 1).trans rfl; have hfz22_0 := blk_frozen BK138.out 0; have hfz22_1 := blk_frozen BK138.out 1; have hcz23_0 : w19.cell? ⟨gb131, 0, none⟩ = some (.int .i64 t128) := (blk_cell BK131.out 0).trans rfl; have hcz23_1 : w19.cell? ⟨gb131, 1, none⟩ = some (.int .i64 t129) := (blk_cell BK131.out 1).trans rfl; have hfz23_0 := blk_frozen BK131.out 0; have hfz23_1 := blk_frozen BK131.out 1; have hcz24_0 : w19.cell? ⟨gb130, 0, none⟩ = some (.slice Ao11 t125.length co11) := (blk_cell BK130.out 0).trans rfl; have hfz24_0 := blk_frozen BK130.out 0) | (go_at_call 9; (with_reducible refine (charset_Check.calls _ _ t125 t139 _ ?side1 ?side2 A5.out).mono ?_); (case side1 => refine (Kd.R_reads' (e := 3) (base := w.heap.size) (ok := fun k_ => (True ∧ some k_ ≠ (.slice Ao17 y132.length co17 : Value).ownBlock)) (n := t125.length) (c := co11) ?_).2.2; exact (by (with_reducible repeat (first | apply Kd.R_alloc | apply Kd.R_drewN | apply Kd.R_drew)); exact (Kd.R_mono (Kd.R_far (p := ⟨gb138, 1, none⟩) (Kd.R_far (p := ⟨gb138, 0, none⟩) (Kd.R_types HO127.out BK138.out (by decide)) (fun _ hk => hk.2) (.int .i64 t136)) (fun _ hk => hk.2) (.int .i64 t137)) (fun _ h_ => h_.1)))); (case side2 => exact (Kd.R_reads' HO127.out).2.1); rintro e w25 ⟨rfl, hb⟩; have n0_ := Aside0.mk (Kd.R_below (by (with_reducible repeat (first | apply Kd.R_alloc | apply Kd.R_drewN | apply Kd.R_drew)); exact (Kd.R_mono (Kd.R_far (p := ⟨gb138, 1, none⟩) (Kd.R_far (p := ⟨gb138, 0, none⟩) (Kd.R_types HO127.out BK138.out (by decide)) (fun _ hk => hk.2) (.int .i64 t136)) (fun _ hk => hk.2) (.int .i64 t137)) (fun _ h_ => h_.1))) hb); have n1_ := Aside0.mk (Kd.R_below (by (with_reducible repeat (first | apply Kd.R_alloc | apply Kd.R_drewN | apply Kd.R_drew)); exact (Kd.R_mono (Kd.R_far (p := ⟨gb138, 1, none⟩) (Kd.R_far (p := ⟨gb138, 0, none⟩) (Kd.R_types HO134.out BK138.out (by decide)) (fun _ hk => hk.2) (.int .i64 t136)) (fun _ hk => hk.2) (.int .i64 t137)) (fun _ h_ => h_.1))) hb); have n2_ := Aside0.mk (blk_below (g := gb130) (o := .cells #[.slice Ao11 t125.length co11] 24 (0, 0)) (by (with_reducible repeat (first | refine blk_drewN ?_ _ | refine blk_drew ?_ | refine blk_alloc ?_ _)); refine blk_far ?_ NB130_138.out _; (with_reducible repeat (first | refine blk_drewN ?_ _ | refine blk_drew ?_ | refine blk_alloc ?_ _)); refine blk_far ?_ NB130_138.out _; (with_reducible repeat (first | refine blk_drewN ?_ _ | refine blk_drew ?_ | refine blk_alloc ?_ _)); exact BK130.out) hb); have n3_ := Aside0.mk (blk_below (g := gb131) (o := .cells #[.int .i64 t128, .int .i64 t129] 30 (0, 0)) (by (with_reducible repeat (first | refine blk_drewN ?_ _ | refine blk_drew ?_ | refine blk_alloc ?_ _)); refine blk_far ?_ NB131_138.out _; (with_reducible repeat (first | refine blk_drewN ?_ _ | refine blk_drew ?_ | refine blk_alloc ?_ _)); refine blk_far ?_ NB131_138.out _; (with_reducible repeat (first | refine blk_drewN ?_ _ | refine blk_drew ?_ | refine blk_alloc ?_ _)); exact BK131.out) hb); have n4_ := Aside0.mk (blk_below (g := gb138) (o := .cells #[.int .i64 t136, .int .i64 t137] 30 (0, 0)) (by (with_reducible repeat (first | refine blk_drewN ?_ _ | refine blk_drew ?_ | refine blk_alloc ?_ _)); refine blk_put (cs := #[.int .i64 t136, .int .i64 0]) ?_ 1 _ rfl; (with_reducible repeat (first | refine blk_drewN ?_ _ | refine blk_drew ?_ | refine blk_alloc ?_ _)); refine blk_put (cs := #[.int .i64 0, .int .i64 0]) ?_ 0 _ rfl; (with_reducible repeat (first | refine blk_drewN ?_ _ | refine blk_drew ?_ | refine blk_alloc ?_ _)); exact BK138.out) hb); have n5_ := Aside0.mk (below_step (by repeat (first | (with_reducible first | exact HB.out | apply below_alloc | apply pw_below_drewN | apply below_drew1 | refine below_set ?_ GE130.out | refine below_set ?_ GE131.out | refine below_set ?_ GE138.out) | exact HB.out)) hb); clear HO127; clear HO134; clear BK130; clear BK131; clear BK138; clear HB; have HO127 := n0_; have HO134 := n1_; have BK130 := n2_; have BK131 := n3_; have BK138 := n4_; have HB := n5_; clear n0_ n1_ n2_ n3_ n4_ n5_; (try clear hb); (try clear hb2); (try clear hk); (try clear hi); have hcz26_0 : w25.cell? ⟨gb138, 0, none⟩ = some (.int .i64 t136) := (blk_cell BK138.out 0).trans rfl; have hcz26_1 : w25.cell? ⟨gb138, 1, none⟩ = some (.int .i64 t137) := (blk_cell BK138.out 1).trans rfl; have hfz26_0 := blk_frozen BK138.out 0; have hfz26_1 := blk_frozen BK138.out 1))
          go_ret
          exact ⟨by first | rfl | (simp [errW_none, errW_some] <;> rfl) | (simp [*, errW_none, errW_some] <;> rfl), by repeat (first | (with_reducible first | exact HB.out | apply below_alloc | apply pw_below_drewN | apply below_drew1 | refine below_set ?_ GE130.out | refine below_set ?_ GE131.out | refine below_set ?_ GE138.out) | exact HB.out)⟩
        · rw [if_neg c7] at H
          have c7b0 : (t135.toList == ([63, 65] : List UInt8)) = false := beq_eq_false_iff_ne.mpr c7
          have c7b1 : (t135.toList != ([63, 65] : List UInt8)) = true := bne_iff_ne.mpr c7
          obtain rfl := Option.some.inj H
          go_enter Tryd.func11, Tryd.ntmps11
          go_wp2_with (first | ((with_reducible refine gate_callee (f := 14) rfl ?_); refine goesL_ (some 6) rfl rfl Tryd.func14 (by kernel_rfl) rfl #[.string (⟨#[52, 49, 32, 48, 48, 52, 49, 10, 10, 51, 70, 32, 48, 48, 51, 70]⟩ : ByteArray)] rfl (by (try simp only [List.map_toArray, List.map_cons, List.map_nil]); first | done | rfl | (simp only [List.length_drop, List.length_take]; rfl)) ?_; (with_reducible refine (charset_Parse.calls (⟨#[52, 49, 32, 48, 48, 52, 49, 10, 10, 51, 70, 32, 48, 48, 51, 70]⟩ : ByteArray) t125 t128 t129 _ A1.out).mono ?_); rintro e w27 ⟨v126, rfl, ho0, hb⟩; refine ⟨_, rfl, ?_⟩; have n0_ := Aside0.mk (Kd.R_lower ho0 (below_size (by repeat (first | (with_reducible first | exact HB.out | apply below_alloc | apply pw_below_drewN | apply below_drew1) | exact HB.out)))); have n1_ := Aside0.mk (below_step (by repeat (first | (with_reducible first | exact HB.out | apply below_alloc | apply pw_below_drewN | apply below_drew1) | exact HB.out)) hb); clear HB; have HO127 := n0_; have HB := n1_; clear n0_ n1_; (try clear hb); (try clear hb2); (try clear hk); (try clear hi); (try clear ho0)) | ((with_reducible refine gate_dst (N := 1) rfl ?_); (try (refine gate_guard (by rfl) ?_; dsimp only)); refine box_event ?hg (N := 1) ?hd (cs := #[.slice none 0 0]) (t := 24) ?hr ?_; (case hd => rfl); (case hg => rfl); (case hr => first | (go_simp; done) | (go_simp; rfl)); intro gb130 hg w28 hbox hb; have n0_ := Aside0.mk (Kd.R_below (by (with_reducible repeat (first | apply Kd.R_alloc | apply Kd.R_drewN | apply Kd.R_drew)); exact HO127.out) hb); have n1_ := Aside0.mk (below_step (by repeat (first | (with_reducible first | exact HB.out | apply below_alloc | apply pw_below_drewN | apply below_drew1) | exact HB.out)) hb); have n2_ := Aside0.mk (hbox); have n3_ := Aside0.mk ((by rw [hg]; exact (below_size (by repeat (first | (with_reducible first | exact HB.out | apply below_alloc | apply pw_below_drewN | apply below_drew1) | exact HB.out))) : w.heap.size ≤ gb130)); have n4_ := Aside0.mk ((by rw [hg]; exact (below_size (by repeat (first | (with_reducible first | exact HB.out | apply below_alloc | apply pw_below_drewN | apply below_drew1) | exact HB.out))) : w.heap.size ≤ gb130)); clear HO127; clear HB; have HO127 := n0_; have HB := n1_; have BK130 := n2_; have GW130 := n3_; have GE130 := n4_; clear n0_ n1_ n2_ n3_ n4_; clear hb hbox hg) | ((with_reducible refine gate_dst (N := 2) rfl ?_); (try (refine gate_guard (by rfl) ?_; dsimp only)); refine box_event ?hg (N := 2) ?hd (cs := #[.int .i64 0, .int .i64 0]) (t := 30) ?hr ?_; (case hd => rfl); (case hg => rfl); (case hr => first | (go_simp; done) | (go_simp; rfl)); intro gb131 hg w29 hbox hb; have n0_ := Aside0.mk (Kd.R_below (by (with_reducible repeat (first | apply Kd.R_alloc | apply Kd.R_drewN | apply Kd.R_drew)); exact HO127.out) hb); have n1_ := Aside0.mk (blk_below (g := gb130) (o := .cells #[.slice none 0 0] 24 (0, 0)) (by (with_reducible repeat (first | refine blk_drewN ?_ _ | refine blk_drew ?_ | refine blk_alloc ?_ _)); exact BK130.out) hb); have n2_ := Aside0.mk (below_step (by repeat (first | (with_reducible first | exact HB.out | apply below_alloc | apply pw_below_drewN | apply below_drew1 | refine below_set ?_ GE130.out) | exact HB.out)) hb); have n3_ := Aside0.mk (hbox); have n4_ := Aside0.mk ((by rw [hg]; exact (below_size (by repeat (first | (with_reducible first | exact HB.out | apply below_alloc | apply pw_below_drewN | apply below_drew1 | refine below_set ?_ GE130.out) | exact HB.out))) : w.heap.size ≤ gb131)); have n5_ := Aside0.mk ((by rw [hg]; exact (below_size (by repeat (first | (with_reducible first | exact HB.out | apply below_alloc | apply pw_below_drewN | apply below_drew1 | refine below_set ?_ GE130.out) | exact HB.out))) : w.heap.size ≤ gb131)); have n6_ := Aside0.mk ((by rw [hg]; exact Nat.ne_of_lt (blk_lt (g := gb130) (o := .cells #[.slice none 0 0] 24 (0, 0)) (by (with_reducible repeat (first | refine blk_drewN ?_ _ | refine blk_drew ?_ | refine blk_alloc ?_ _)); exact BK130.out)) : gb130 ≠ gb131)); have n7_ := Aside0.mk ((by rw [hg]; exact Nat.ne_of_gt (blk_lt (g := gb130) (o := .cells #[.slice none 0 0] 24 (0, 0)) (by (with_reducible repeat (first | refine blk_drewN ?_ _ | refine blk_drew ?_ | refine blk_alloc ?_ _)); exact BK130.out)) : gb131 ≠ gb130)); clear HO127; clear BK130; clear HB; have HO127 := n0_; have BK130 := n1_; have HB := n2_; have BK131 := n3_; have GW131 := n4_; have GE131 := n5_; have NB130_131 := n6_; have NB131_130 := n7_; clear n0_ n1_ n2_ n3_ n4_ n5_ n6_ n7_; clear hb hbox hg; obtain ⟨Ao30, co30, eo30⟩ := Kd.R_slice HO127.out; subst eo30; have hnb31 := NB130_131.out; have hnc31 := NB131_130.out; have hcz32_0 : w29.cell? ⟨gb130, 0, none⟩ = some (.slice none 0 0) := (blk_cell BK130.out 0).trans rfl; have hfz32_0 := blk_frozen BK130.out 0; have hcz33_0 : w29.cell? ⟨gb131, 0, none⟩ = some (.int .i64 0) := (blk_cell BK131.out 0).trans rfl; have hcz33_1 : w29.cell? ⟨gb131, 1, none⟩ = some (.int .i64 0) := (blk_cell BK131.out 1).trans rfl; have hfz33_0 := blk_frozen BK131.out 0; have hfz33_1 := blk_frozen BK131.out 1) | ((with_reducible refine gate_dst (N := 11) rfl ?_); (try (refine gate_guard (by rfl) ?_; dsimp only)); refine Kd.R_lit (Kd.int .i64) _ 3 ?hg (N := 11) ?hd (xs := ([233, 65] : List Int)) (inner := [.int .i64 233, .int .i64 65]) (ok := fun _ => True) (okp := fun _ => True) ?hr ?hp (fun _ hk => hk) trivial (Below.refl _ _) (Nat.le_refl _) (by simp) ?_; (case hd => rfl); (case hg => rfl); (case hr => first | (go_simp; done) | (go_simp; rfl)); (case hp => exact (Reps.one (show Kd.M (Kd.int .i64) _ _ _ 233 [.int .i64 233] from rfl) (Reps.one (show Kd.M (Kd.int .i64) _ _ _ 65 [.int .i64 65] from rfl) (Reps.none _ _)))); intro v133 w34 ho35 hb hg_ hnew_; clear hg_ hnew_; (first | rw [← Ny132.out] at ho35 | (simp only [Int.reduceToNat] at ho35; rw [← Ny132.out] at ho35)); have n0_ := Aside0.mk (Kd.R_elder' (by (with_reducible repeat (first | apply Kd.R_alloc | apply Kd.R_drewN | apply Kd.R_drew)); exact (Kd.R_mono (Kd.R_mono (Kd.R_far (p := ⟨gb131, 1, none⟩) (Kd.R_far (p := ⟨gb131, 0, none⟩) (Kd.R_far (p := ⟨gb130, 0, none⟩) (Kd.R_types (Kd.R_types HO127.out BK130.out (by decide)) BK131.out (by decide)) (fun _ hk => hk.1.2) (.slice Ao30 t125.length co30)) (fun _ hk => hk.2) (.int .i64 t128)) (fun _ hk => hk.2) (.int .i64 t129)) (fun _ h_ => h_.1)) (fun _ h_ => h_.1))) (Kd.R_base ho35) hb); have n1_ := Aside0.mk (Kd.R_lower (Kd.R_new' ho35 (Kd.R_lt (by (with_reducible repeat (first | apply Kd.R_alloc | apply Kd.R_drewN | apply Kd.R_drew)); exact (Kd.R_mono (Kd.R_mono (Kd.R_far (p := ⟨gb131, 1, none⟩) (Kd.R_far (p := ⟨gb131, 0, none⟩) (Kd.R_far (p := ⟨gb130, 0, none⟩) (Kd.R_types (Kd.R_types HO127.out BK130.out (by decide)) BK131.out (by decide)) (fun _ hk => hk.1.2) (.slice Ao30 t125.length co30)) (fun _ hk => hk.2) (.int .i64 t128)) (fun _ hk => hk.2) (.int .i64 t129)) (fun _ h_ => h_.1)) (fun _ h_ => h_.1))))) (below_size (by repeat (first | (with_reducible first | exact HB.out | apply below_alloc | apply pw_below_drewN | apply below_drew1 | refine below_set ?_ GE130.out | refine below_set ?_ GE131.out) | exact HB.out)))); have n2_ := Aside0.mk (blk_below (g := gb130) (o := .cells #[.slice Ao30 t125.length co30] 24 (0, 0)) (by (with_reducible repeat (first | refine blk_drewN ?_ _ | refine blk_drew ?_ | refine blk_alloc ?_ _)); refine blk_far ?_ NB130_131.out _; (with_reducible repeat (first | refine blk_drewN ?_ _ | refine blk_drew ?_ | refine blk_alloc ?_ _)); refine blk_far ?_ NB130_131.out _; (with_reducible repeat (first | refine blk_drewN ?_ _ | refine blk_drew ?_ | refine blk_alloc ?_ _)); refine blk_put (cs := #[.slice none 0 0]) ?_ 0 _ rfl; (with_reducible repeat (first | refine blk_drewN ?_ _ | refine blk_drew ?_ | refine blk_alloc ?_ _)); exact BK130.out) hb); have n3_ := Aside0.mk (blk_below (g := gb131) (o := .cells #[.int .i64 t128, .int .i64 t129] 30 (0, 0)) (by (with_reducible repeat (first | refine blk_drewN ?_ _ | refine blk_drew ?_ | refine blk_alloc ?_ _)); refine blk_put (cs := #[.int .i64 t128, .int .i64 0]) ?_ 1 _ rfl; (with_reducible repeat (first | refine blk_drewN ?_ _ | refine blk_drew ?_ | refine blk_alloc ?_ _)); refine blk_put (cs := #[.int .i64 0, .int .i64 0]) ?_ 0 _ rfl; (with_reducible repeat (first | refine blk_drewN ?_ _ | refine blk_drew ?_ | refine blk_alloc ?_ _)); refine blk_far ?_ NB131_130.out _; (with_reducible repeat (first | refine blk_drewN ?_ _ | refine blk_drew ?_ | refine blk_alloc ?_ _)); exact BK131.out) hb); have n4_ := Aside0.mk (below_step (by repeat (first | (with_reducible first | exact HB.out | apply below_alloc | apply pw_below_drewN | apply below_drew1 | refine below_set ?_ GE130.out | refine below_set ?_ GE131.out) | exact HB.out)) hb); clear HO127; clear BK130; clear BK131; clear HB; have HO127 := n0_; have HO134 := n1_; have BK130 := n2_; have BK131 := n3_; have HB := n4_; clear n0_ n1_ n2_ n3_ n4_; clear hb ho35; obtain ⟨Ao36, co36, eo36⟩ := Kd.R_slice HO134.out; subst eo36) | ((with_reducible refine gate_callee (f := 12) rfl ?_); refine goesL_ (some 12) rfl rfl Tryd.func12 (by kernel_rfl) rfl #[.agg #[.slice Ao30 t125.length co30], .slice Ao36 y132.length co36, .int .i64 2] rfl (by (try simp only [List.map_toArray, List.map_cons, List.map_nil]); first | done | rfl | (simp only [List.length_drop, List.length_take]; rfl)) ?_; (with_reducible refine (charset_Encode.calls _ _ t125 _ _ y132 2 t135 t136 t137 _ ?side1 ?side2 ?side3 ?side4 A2.out).mono ?_); (case side1 => repeat (first | exact (Kd.R_reads' HO127.out).2.2 | (with_reducible refine Kd.C_alloc ?_ _) | (with_reducible refine Kd.C_drewN ?_ _) | (with_reducible refine Kd.C_drew ?_))); (case side2 => exact (Kd.R_reads' HO127.out).2.1); (case side3 => repeat (first | exact (Kd.R_reads' HO134.out).2.2 | (with_reducible refine Kd.C_alloc ?_ _) | (with_reducible refine Kd.C_drewN ?_ _) | (with_reducible refine Kd.C_drew ?_))); (case side4 => exact (Kd.R_reads' HO134.out).2.1); rintro e w37 ⟨rfl, hb⟩; refine ⟨_, rfl, ?_⟩; have n0_ := Aside0.mk (Kd.R_below (by (with_reducible repeat (first | apply Kd.R_alloc | apply Kd.R_drewN | apply Kd.R_drew)); exact HO127.out) hb); have n1_ := Aside0.mk (Kd.R_below (by (with_reducible repeat (first | apply Kd.R_alloc | apply Kd.R_drewN | apply Kd.R_drew)); exact HO134.out) hb); have n2_ := Aside0.mk (blk_below (g := gb130) (o := .cells #[.slice Ao30 t125.length co30] 24 (0, 0)) (by (with_reducible repeat (first | refine blk_drewN ?_ _ | refine blk_drew ?_ | refine blk_alloc ?_ _)); exact BK130.out) hb); have n3_ := Aside0.mk (blk_below (g := gb131) (o := .cells #[.int .i64 t128, .int .i64 t129] 30 (0, 0)) (by (with_reducible repeat (first | refine blk_drewN ?_ _ | refine blk_drew ?_ | refine blk_alloc ?_ _)); exact BK131.out) hb); have n4_ := Aside0.mk (below_step (by repeat (first | (with_reducible first | exact HB.out | apply below_alloc | apply pw_below_drewN | apply below_drew1 | refine below_set ?_ GE130.out | refine below_set ?_ GE131.out) | exact HB.out)) hb); clear HO127; clear HO134; clear BK130; clear BK131; clear HB; have HO127 := n0_; have HO134 := n1_; have BK130 := n2_; have BK131 := n3_; have HB := n4_; clear n0_ n1_ n2_ n3_ n4_; (try clear hb); (try clear hb2); (try clear hk); (try clear hi)) | ((with_reducible refine gate_dst (N := 4) rfl ?_); (try (refine gate_guard (by rfl) ?_; dsimp only)); refine box_event ?hg (N := 4) ?hd (cs := #[.int .i64 0, .int .i64 0]) (t := 30) ?hr ?_; (case hd => rfl); (case hg => rfl); (case hr => first | (go_simp; done) | (go_simp; rfl)); intro gb138 hg w38 hbox hb; have n0_ := Aside0.mk (Kd.R_below (by (with_reducible repeat (first | apply Kd.R_alloc | apply Kd.R_drewN | apply Kd.R_drew)); exact HO127.out) hb); have n1_ := Aside0.mk (Kd.R_below (by (with_reducible repeat (first | apply Kd.R_alloc | apply Kd.R_drewN | apply Kd.R_drew)); exact HO134.out) hb); have n2_ := Aside0.mk (blk_below (g := gb130) (o := .cells #[.slice Ao30 t125.length co30] 24 (0, 0)) (by (with_reducible repeat (first | refine blk_drewN ?_ _ | refine blk_drew ?_ | refine blk_alloc ?_ _)); exact BK130.out) hb); have n3_ := Aside0.mk (blk_below (g := gb131) (o := .cells #[.int .i64 t128, .int .i64 t129] 30 (0, 0)) (by (with_reducible repeat (first | refine blk_drewN ?_ _ | refine blk_drew ?_ | refine blk_alloc ?_ _)); exact BK131.out) hb); have n4_ := Aside0.mk (below_step (by repeat (first | (with_reducible first | exact HB.out | apply below_alloc | apply pw_below_drewN | apply below_drew1 | refine below_set ?_ GE130.out | refine below_set ?_ GE131.out) | exact HB.out)) hb); have n5_ := Aside0.mk (hbox); have n6_ := Aside0.mk ((by rw [hg]; exact (below_size (by repeat (first | (with_reducible first | exact HB.out | apply below_alloc | apply pw_below_drewN | apply below_drew1 | refine below_set ?_ GE130.out | refine below_set ?_ GE131.out) | exact HB.out))) : w.heap.size ≤ gb138)); have n7_ := Aside0.mk ((by rw [hg]; exact (below_size (by repeat (first | (with_reducible first | exact HB.out | apply below_alloc | apply pw_below_drewN | apply below_drew1 | refine below_set ?_ GE130.out | refine below_set ?_ GE131.out) | exact HB.out))) : w.heap.size ≤ gb138)); have n8_ := Aside0.mk ((by rw [hg]; exact Nat.ne_of_lt (blk_lt (g := gb130) (o := .cells #[.slice Ao30 t125.length co30] 24 (0, 0)) (by (with_reducible repeat (first | refine blk_drewN ?_ _ | refine blk_drew ?_ | refine blk_alloc ?_ _)); exact BK130.out)) : gb130 ≠ gb138)); have n9_ := Aside0.mk ((by rw [hg]; exact Nat.ne_of_gt (blk_lt (g := gb130) (o := .cells #[.slice Ao30 t125.length co30] 24 (0, 0)) (by (with_reducible repeat (first | refine blk_drewN ?_ _ | refine blk_drew ?_ | refine blk_alloc ?_ _)); exact BK130.out)) : gb138 ≠ gb130)); have n10_ := Aside0.mk ((by rw [hg]; exact Nat.ne_of_lt (blk_lt (g := gb131) (o := .cells #[.int .i64 t128, .int .i64 t129] 30 (0, 0)) (by (with_reducible repeat (first | refine blk_drewN ?_ _ | refine blk_drew ?_ | refine blk_alloc ?_ _)); exact BK131.out)) : gb131 ≠ gb138)); have n11_ := Aside0.mk ((by rw [hg]; exact Nat.ne_of_gt (blk_lt (g := gb131) (o := .cells #[.int .i64 t128, .int .i64 t129] 30 (0, 0)) (by (with_reducible repeat (first | refine blk_drewN ?_ _ | refine blk_drew ?_ | refine blk_alloc ?_ _)); exact BK131.out)) : gb138 ≠ gb131)); clear HO127; clear HO134; clear BK130; clear BK131; clear HB; have HO127 := n0_; have HO134 := n1_; have BK130 := n2_; have BK131 := n3_; have HB := n4_; have BK138 := n5_; have GW138 := n6_; have GE138 := n7_; have NB130_138 := n8_; have NB138_130 := n9_; have NB131_138 := n10_; have NB138_131 := n11_; clear n0_ n1_ n2_ n3_ n4_ n5_ n6_ n7_ n8_ n9_ n10_ n11_; clear hb hbox hg; have hnb39 := NB138_130.out; have hnc39 := NB130_138.out; have hnb40 := NB138_131.out; have hnc40 := NB131_138.out; have hcz41_0 : w38.cell? ⟨gb138, 0, none⟩ = some (.int .i64 0) := (blk_cell BK138.out 0).trans rfl; have hcz41_1 : w38.cell? ⟨gb138, 1, none⟩ = some (.int .i64 0) := (blk_cell BK138.out 1).trans rfl; have hfz41_0 := blk_frozen BK138.out 0; have hfz41_1 := blk_frozen BK138.out 1; have hcz42_0 : w38.cell? ⟨gb131, 0, none⟩ = some (.int .i64 t128) := (blk_cell BK131.out 0).trans rfl; have hcz42_1 : w38.cell? ⟨gb131, 1, none⟩ = some (.int .i64 t129) := (blk_cell BK131.out 1).trans rfl; have hfz42_0 := blk_frozen BK131.out 0; have hfz42_1 := blk_frozen BK131.out 1; have hcz43_0 : w38.cell? ⟨gb130, 0, none⟩ = some (.slice Ao30 t125.length co30) := (blk_cell BK130.out 0).trans rfl; have hfz43_0 := blk_frozen BK130.out 0) | (go_at_call 9; (with_reducible refine (charset_Check.calls _ _ t125 t139 _ ?side1 ?side2 A5.out).mono ?_); (case side1 => refine (Kd.R_reads' (e := 3) (base := w.heap.size) (ok := fun k_ => (True ∧ some k_ ≠ (.slice Ao36 y132.length co36 : Value).ownBlock)) (n := t125.length) (c := co30) ?_).2.2; exact (by (with_reducible repeat (first | apply Kd.R_alloc | apply Kd.R_drewN | apply Kd.R_drew)); exact (Kd.R_mono (Kd.R_far (p := ⟨gb138, 1, none⟩) (Kd.R_far (p := ⟨gb138, 0, none⟩) (Kd.R_types HO127.out BK138.out (by decide)) (fun _ hk => hk.2) (.int .i64 t136)) (fun _ hk => hk.2) (.int .i64 t137)) (fun _ h_ => h_.1)))); (case side2 => exact (Kd.R_reads' HO127.out).2.1); rintro e w44 ⟨rfl, hb⟩; have n0_ := Aside0.mk (Kd.R_below (by (with_reducible repeat (first | apply Kd.R_alloc | apply Kd.R_drewN | apply Kd.R_drew)); exact (Kd.R_mono (Kd.R_far (p := ⟨gb138, 1, none⟩) (Kd.R_far (p := ⟨gb138, 0, none⟩) (Kd.R_types HO127.out BK138.out (by decide)) (fun _ hk => hk.2) (.int .i64 t136)) (fun _ hk => hk.2) (.int .i64 t137)) (fun _ h_ => h_.1))) hb); have n1_ := Aside0.mk (Kd.R_below (by (with_reducible repeat (first | apply Kd.R_alloc | apply Kd.R_drewN | apply Kd.R_drew)); exact (Kd.R_mono (Kd.R_far (p := ⟨gb138, 1, none⟩) (Kd.R_far (p := ⟨gb138, 0, none⟩) (Kd.R_types HO134.out BK138.out (by decide)) (fun _ hk => hk.2) (.int .i64 t136)) (fun _ hk => hk.2) (.int .i64 t137)) (fun _ h_ => h_.1))) hb); have n2_ := Aside0.mk (blk_below (g := gb130) (o := .cells #[.slice Ao30 t125.length co30] 24 (0, 0)) (by (with_reducible repeat (first | refine blk_drewN ?_ _ | refine blk_drew ?_ | refine blk_alloc ?_ _)); refine blk_far ?_ NB130_138.out _; (with_reducible repeat (first | refine blk_drewN ?_ _ | refine blk_drew ?_ | refine blk_alloc ?_ _)); refine blk_far ?_ NB130_138.out _; (with_reducible repeat (first | refine blk_drewN ?_ _ | refine blk_drew ?_ | refine blk_alloc ?_ _)); exact BK130.out) hb); have n3_ := Aside0.mk (blk_below (g := gb131) (o := .cells #[.int .i64 t128, .int .i64 t129] 30 (0, 0)) (by (with_reducible repeat (first | refine blk_drewN ?_ _ | refine blk_drew ?_ | refine blk_alloc ?_ _)); refine blk_far ?_ NB131_138.out _; (with_reducible repeat (first | refine blk_drewN ?_ _ | refine blk_drew ?_ | refine blk_alloc ?_ _)); refine blk_far ?_ NB131_138.out _; (with_reducible repeat (first | refine blk_drewN ?_ _ | refine blk_drew ?_ | refine blk_alloc ?_ _)); exact BK131.out) hb); have n4_ := Aside0.mk (blk_below (g := gb138) (o := .cells #[.int .i64 t136, .int .i64 t137] 30 (0, 0)) (by (with_reducible repeat (first | refine blk_drewN ?_ _ | refine blk_drew ?_ | refine blk_alloc ?_ _)); refine blk_put (cs := #[.int .i64 t136, .int .i64 0]) ?_ 1 _ rfl; (with_reducible repeat (first | refine blk_drewN ?_ _ | refine blk_drew ?_ | refine blk_alloc ?_ _)); refine blk_put (cs := #[.int .i64 0, .int .i64 0]) ?_ 0 _ rfl; (with_reducible repeat (first | refine blk_drewN ?_ _ | refine blk_drew ?_ | refine blk_alloc ?_ _)); exact BK138.out) hb); have n5_ := Aside0.mk (below_step (by repeat (first | (with_reducible first | exact HB.out | apply below_alloc | apply pw_below_drewN | apply below_drew1 | refine below_set ?_ GE130.out | refine below_set ?_ GE131.out | refine below_set ?_ GE138.out) | exact HB.out)) hb); clear HO127; clear HO134; clear BK130; clear BK131; clear BK138; clear HB; have HO127 := n0_; have HO134 := n1_; have BK130 := n2_; have BK131 := n3_; have BK138 := n4_; have HB := n5_; clear n0_ n1_ n2_ n3_ n4_ n5_; (try clear hb); (try clear hb2); (try clear hk); (try clear hi)))
          go_ret
          exact ⟨by first | rfl | (simp [errW_none, errW_some] <;> rfl) | (simp [*, errW_none, errW_some] <;> rfl), by repeat (first | (with_reducible first | exact HB.out | apply below_alloc | apply pw_below_drewN | apply below_drew1 | refine below_set ?_ GE130.out | refine below_set ?_ GE131.out | refine below_set ?_ GE138.out) | exact HB.out)⟩
      · rw [if_neg c6] at H
        have c6b0 : (t139 == 0) = false := beq_eq_false_iff_ne.mpr c6
        have c6b1 : (t139 != 0) = true := bne_iff_ne.mpr c6
        obtain rfl := Option.some.inj H
        go_enter Tryd.func11, Tryd.ntmps11
        go_wp2_with (first | ((with_reducible refine gate_callee (f := 14) rfl ?_); refine goesL_ (some 6) rfl rfl Tryd.func14 (by kernel_rfl) rfl #[.string (⟨#[52, 49, 32, 48, 48, 52, 49, 10, 10, 51, 70, 32, 48, 48, 51, 70]⟩ : ByteArray)] rfl (by (try simp only [List.map_toArray, List.map_cons, List.map_nil]); first | done | rfl | (simp only [List.length_drop, List.length_take]; rfl)) ?_; (with_reducible refine (charset_Parse.calls (⟨#[52, 49, 32, 48, 48, 52, 49, 10, 10, 51, 70, 32, 48, 48, 51, 70]⟩ : ByteArray) t125 t128 t129 _ A1.out).mono ?_); rintro e w45 ⟨v126, rfl, ho0, hb⟩; refine ⟨_, rfl, ?_⟩; have n0_ := Aside0.mk (Kd.R_lower ho0 (below_size (by repeat (first | (with_reducible first | exact HB.out | apply below_alloc | apply pw_below_drewN | apply below_drew1) | exact HB.out)))); have n1_ := Aside0.mk (below_step (by repeat (first | (with_reducible first | exact HB.out | apply below_alloc | apply pw_below_drewN | apply below_drew1) | exact HB.out)) hb); clear HB; have HO127 := n0_; have HB := n1_; clear n0_ n1_; (try clear hb); (try clear hb2); (try clear hk); (try clear hi); (try clear ho0)) | ((with_reducible refine gate_dst (N := 1) rfl ?_); (try (refine gate_guard (by rfl) ?_; dsimp only)); refine box_event ?hg (N := 1) ?hd (cs := #[.slice none 0 0]) (t := 24) ?hr ?_; (case hd => rfl); (case hg => rfl); (case hr => first | (go_simp; done) | (go_simp; rfl)); intro gb130 hg w46 hbox hb; have n0_ := Aside0.mk (Kd.R_below (by (with_reducible repeat (first | apply Kd.R_alloc | apply Kd.R_drewN | apply Kd.R_drew)); exact HO127.out) hb); have n1_ := Aside0.mk (below_step (by repeat (first | (with_reducible first | exact HB.out | apply below_alloc | apply pw_below_drewN | apply below_drew1) | exact HB.out)) hb); have n2_ := Aside0.mk (hbox); have n3_ := Aside0.mk ((by rw [hg]; exact (below_size (by repeat (first | (with_reducible first | exact HB.out | apply below_alloc | apply pw_below_drewN | apply below_drew1) | exact HB.out))) : w.heap.size ≤ gb130)); have n4_ := Aside0.mk ((by rw [hg]; exact (below_size (by repeat (first | (with_reducible first | exact HB.out | apply below_alloc | apply pw_below_drewN | apply below_drew1) | exact HB.out))) : w.heap.size ≤ gb130)); clear HO127; clear HB; have HO127 := n0_; have HB := n1_; have BK130 := n2_; have GW130 := n3_; have GE130 := n4_; clear n0_ n1_ n2_ n3_ n4_; clear hb hbox hg) | ((with_reducible refine gate_dst (N := 2) rfl ?_); (try (refine gate_guard (by rfl) ?_; dsimp only)); refine box_event ?hg (N := 2) ?hd (cs := #[.int .i64 0, .int .i64 0]) (t := 30) ?hr ?_; (case hd => rfl); (case hg => rfl); (case hr => first | (go_simp; done) | (go_simp; rfl)); intro gb131 hg w47 hbox hb; have n0_ := Aside0.mk (Kd.R_below (by (with_reducible repeat (first | apply Kd.R_alloc | apply Kd.R_drewN | apply Kd.R_drew)); exact HO127.out) hb); have n1_ := Aside0.mk (blk_below (g := gb130) (o := .cells #[.slice none 0 0] 24 (0, 0)) (by (with_reducible repeat (first | refine blk_drewN ?_ _ | refine blk_drew ?_ | refine blk_alloc ?_ _)); exact BK130.out) hb); have n2_ := Aside0.mk (below_step (by repeat (first | (with_reducible first | exact HB.out | apply below_alloc | apply pw_below_drewN | apply below_drew1 | refine below_set ?_ GE130.out) | exact HB.out)) hb); have n3_ := Aside0.mk (hbox); have n4_ := Aside0.mk ((by rw [hg]; exact (below_size (by repeat (first | (with_reducible first | exact HB.out | apply below_alloc | apply pw_below_drewN | apply below_drew1 | refine below_set ?_ GE130.out) | exact HB.out))) : w.heap.size ≤ gb131)); have n5_ := Aside0.mk ((by rw [hg]; exact (below_size (by repeat (first | (with_reducible first | exact HB.out | apply below_alloc | apply pw_below_drewN | apply below_drew1 | refine below_set ?_ GE130.out) | exact HB.out))) : w.heap.size ≤ gb131)); have n6_ := Aside0.mk ((by rw [hg]; exact Nat.ne_of_lt (blk_lt (g := gb130) (o := .cells #[.slice none 0 0] 24 (0, 0)) (by (with_reducible repeat (first | refine blk_drewN ?_ _ | refine blk_drew ?_ | refine blk_alloc ?_ _)); exact BK130.out)) : gb130 ≠ gb131)); have n7_ := Aside0.mk ((by rw [hg]; exact Nat.ne_of_gt (blk_lt (g := gb130) (o := .cells #[.slice none 0 0] 24 (0, 0)) (by (with_reducible repeat (first | refine blk_drewN ?_ _ | refine blk_drew ?_ | refine blk_alloc ?_ _)); exact BK130.out)) : gb131 ≠ gb130)); clear HO127; clear BK130; clear HB; have HO127 := n0_; have BK130 := n1_; have HB := n2_; have BK131 := n3_; have GW131 := n4_; have GE131 := n5_; have NB130_131 := n6_; have NB131_130 := n7_; clear n0_ n1_ n2_ n3_ n4_ n5_ n6_ n7_; clear hb hbox hg; obtain ⟨Ao48, co48, eo48⟩ := Kd.R_slice HO127.out; subst eo48; have hnb49 := NB130_131.out; have hnc49 := NB131_130.out; have hcz50_0 : w47.cell? ⟨gb130, 0, none⟩ = some (.slice none 0 0) := (blk_cell BK130.out 0).trans rfl; have hfz50_0 := blk_frozen BK130.out 0; have hcz51_0 : w47.cell? ⟨gb131, 0, none⟩ = some (.int .i64 0) := (blk_cell BK131.out 0).trans rfl; have hcz51_1 : w47.cell? ⟨gb131, 1, none⟩ = some (.int .i64 0) := (blk_cell BK131.out 1).trans rfl; have hfz51_0 := blk_frozen BK131.out 0; have hfz51_1 := blk_frozen BK131.out 1) | ((with_reducible refine gate_dst (N := 11) rfl ?_); (try (refine gate_guard (by rfl) ?_; dsimp only)); refine Kd.R_lit (Kd.int .i64) _ 3 ?hg (N := 11) ?hd (xs := ([233, 65] : List Int)) (inner := [.int .i64 233, .int .i64 65]) (ok := fun _ => True) (okp := fun _ => True) ?hr ?hp (fun _ hk => hk) trivial (Below.refl _ _) (Nat.le_refl _) (by simp) ?_; (case hd => rfl); (case hg => rfl); (case hr => first | (go_simp; done) | (go_simp; rfl)); (case hp => exact (Reps.one (show Kd.M (Kd.int .i64) _ _ _ 233 [.int .i64 233] from rfl) (Reps.one (show Kd.M (Kd.int .i64) _ _ _ 65 [.int .i64 65] from rfl) (Reps.none _ _)))); intro v133 w52 ho53 hb hg_ hnew_; clear hg_ hnew_; (first | rw [← Ny132.out] at ho53 | (simp only [Int.reduceToNat] at ho53; rw [← Ny132.out] at ho53)); have n0_ := Aside0.mk (Kd.R_elder' (by (with_reducible repeat (first | apply Kd.R_alloc | apply Kd.R_drewN | apply Kd.R_drew)); exact (Kd.R_mono (Kd.R_mono (Kd.R_far (p := ⟨gb131, 1, none⟩) (Kd.R_far (p := ⟨gb131, 0, none⟩) (Kd.R_far (p := ⟨gb130, 0, none⟩) (Kd.R_types (Kd.R_types HO127.out BK130.out (by decide)) BK131.out (by decide)) (fun _ hk => hk.1.2) (.slice Ao48 t125.length co48)) (fun _ hk => hk.2) (.int .i64 t128)) (fun _ hk => hk.2) (.int .i64 t129)) (fun _ h_ => h_.1)) (fun _ h_ => h_.1))) (Kd.R_base ho53) hb); have n1_ := Aside0.mk (Kd.R_lower (Kd.R_new' ho53 (Kd.R_lt (by (with_reducible repeat (first | apply Kd.R_alloc | apply Kd.R_drewN | apply Kd.R_drew)); exact (Kd.R_mono (Kd.R_mono (Kd.R_far (p := ⟨gb131, 1, none⟩) (Kd.R_far (p := ⟨gb131, 0, none⟩) (Kd.R_far (p := ⟨gb130, 0, none⟩) (Kd.R_types (Kd.R_types HO127.out BK130.out (by decide)) BK131.out (by decide)) (fun _ hk => hk.1.2) (.slice Ao48 t125.length co48)) (fun _ hk => hk.2) (.int .i64 t128)) (fun _ hk => hk.2) (.int .i64 t129)) (fun _ h_ => h_.1)) (fun _ h_ => h_.1))))) (below_size (by repeat (first | (with_reducible first | exact HB.out | apply below_alloc | apply pw_below_drewN | apply below_drew1 | refine below_set ?_ GE130.out | refine below_set ?_ GE131.out) | exact HB.out)))); have n2_ := Aside0.mk (blk_below (g := gb130) (o := .cells #[.slice Ao48 t125.length co48] 24 (0, 0)) (by (with_reducible repeat (first | refine blk_drewN ?_ _ | refine blk_drew ?_ | refine blk_alloc ?_ _)); refine blk_far ?_ NB130_131.out _; (with_reducible repeat (first | refine blk_drewN ?_ _ | refine blk_drew ?_ | refine blk_alloc ?_ _)); refine blk_far ?_ NB130_131.out _; (with_reducible repeat (first | refine blk_drewN ?_ _ | refine blk_drew ?_ | refine blk_alloc ?_ _)); refine blk_put (cs := #[.slice none 0 0]) ?_ 0 _ rfl; (with_reducible repeat (first | refine blk_drewN ?_ _ | refine blk_drew ?_ | refine blk_alloc ?_ _)); exact BK130.out) hb); have n3_ := Aside0.mk (blk_below (g := gb131) (o := .cells #[.int .i64 t128, .int .i64 t129] 30 (0, 0)) (by (with_reducible repeat (first | refine blk_drewN ?_ _ | refine blk_drew ?_ | refine blk_alloc ?_ _)); refine blk_put (cs := #[.int .i64 t128, .int .i64 0]) ?_ 1 _ rfl; (with_reducible repeat (first | refine blk_drewN ?_ _ | refine blk_drew ?_ | refine blk_alloc ?_ _)); refine blk_put (cs := #[.int .i64 0, .int .i64 0]) ?_ 0 _ rfl; (with_reducible repeat (first | refine blk_drewN ?_ _ | refine blk_drew ?_ | refine blk_alloc ?_ _)); refine blk_far ?_ NB131_130.out _; (with_reducible repeat (first | refine blk_drewN ?_ _ | refine blk_drew ?_ | refine blk_alloc ?_ _)); exact BK131.out) hb); have n4_ := Aside0.mk (below_step (by repeat (first | (with_reducible first | exact HB.out | apply below_alloc | apply pw_below_drewN | apply below_drew1 | refine below_set ?_ GE130.out | refine below_set ?_ GE131.out) | exact HB.out)) hb); clear HO127; clear BK130; clear BK131; clear HB; have HO127 := n0_; have HO134 := n1_; have BK130 := n2_; have BK131 := n3_; have HB := n4_; clear n0_ n1_ n2_ n3_ n4_; clear hb ho53; obtain ⟨Ao54, co54, eo54⟩ := Kd.R_slice HO134.out; subst eo54) | ((with_reducible refine gate_callee (f := 12) rfl ?_); refine goesL_ (some 12) rfl rfl Tryd.func12 (by kernel_rfl) rfl #[.agg #[.slice Ao48 t125.length co48], .slice Ao54 y132.length co54, .int .i64 2] rfl (by (try simp only [List.map_toArray, List.map_cons, List.map_nil]); first | done | rfl | (simp only [List.length_drop, List.length_take]; rfl)) ?_; (with_reducible refine (charset_Encode.calls _ _ t125 _ _ y132 2 t135 t136 t137 _ ?side1 ?side2 ?side3 ?side4 A2.out).mono ?_); (case side1 => repeat (first | exact (Kd.R_reads' HO127.out).2.2 | (with_reducible refine Kd.C_alloc ?_ _) | (with_reducible refine Kd.C_drewN ?_ _) | (with_reducible refine Kd.C_drew ?_))); (case side2 => exact (Kd.R_reads' HO127.out).2.1); (case side3 => repeat (first | exact (Kd.R_reads' HO134.out).2.2 | (with_reducible refine Kd.C_alloc ?_ _) | (with_reducible refine Kd.C_drewN ?_ _) | (with_reducible refine Kd.C_drew ?_))); (case side4 => exact (Kd.R_reads' HO134.out).2.1); rintro e w55 ⟨rfl, hb⟩; refine ⟨_, rfl, ?_⟩; have n0_ := Aside0.mk (Kd.R_below (by (with_reducible repeat (first | apply Kd.R_alloc | apply Kd.R_drewN | apply Kd.R_drew)); exact HO127.out) hb); have n1_ := Aside0.mk (Kd.R_below (by (with_reducible repeat (first | apply Kd.R_alloc | apply Kd.R_drewN | apply Kd.R_drew)); exact HO134.out) hb); have n2_ := Aside0.mk (blk_below (g := gb130) (o := .cells #[.slice Ao48 t125.length co48] 24 (0, 0)) (by (with_reducible repeat (first | refine blk_drewN ?_ _ | refine blk_drew ?_ | refine blk_alloc ?_ _)); exact BK130.out) hb); have n3_ := Aside0.mk (blk_below (g := gb131) (o := .cells #[.int .i64 t128, .int .i64 t129] 30 (0, 0)) (by (with_reducible repeat (first | refine blk_drewN ?_ _ | refine blk_drew ?_ | refine blk_alloc ?_ _)); exact BK131.out) hb); have n4_ := Aside0.mk (below_step (by repeat (first | (with_reducible first | exact HB.out | apply below_alloc | apply pw_below_drewN | apply below_drew1 | refine below_set ?_ GE130.out | refine below_set ?_ GE131.out) | exact HB.out)) hb); clear HO127; clear HO134; clear BK130; clear BK131; clear HB; have HO127 := n0_; have HO134 := n1_; have BK130 := n2_; have BK131 := n3_; have HB := n4_; clear n0_ n1_ n2_ n3_ n4_; (try clear hb); (try clear hb2); (try clear hk); (try clear hi)) | ((with_reducible refine gate_dst (N := 4) rfl ?_); (try (refine gate_guard (by rfl) ?_; dsimp only)); refine box_event ?hg (N := 4) ?hd (cs := #[.int .i64 0, .int .i64 0]) (t := 30) ?hr ?_; (case hd => rfl); (case hg => rfl); (case hr => first | (go_simp; done) | (go_simp; rfl)); intro gb138 hg w56 hbox hb; have n0_ := Aside0.mk (Kd.R_below (by (with_reducible repeat (first | apply Kd.R_alloc | apply Kd.R_drewN | apply Kd.R_drew)); exact HO127.out) hb); have n1_ := Aside0.mk (Kd.R_below (by (with_reducible repeat (first | apply Kd.R_alloc | apply Kd.R_drewN | apply Kd.R_drew)); exact HO134.out) hb); have n2_ := Aside0.mk (blk_below (g := gb130) (o := .cells #[.slice Ao48 t125.length co48] 24 (0, 0)) (by (with_reducible repeat (first | refine blk_drewN ?_ _ | refine blk_drew ?_ | refine blk_alloc ?_ _)); exact BK130.out) hb); have n3_ := Aside0.mk (blk_below (g := gb131) (o := .cells #[.int .i64 t128, .int .i64 t129] 30 (0, 0)) (by (with_reducible repeat (first | refine blk_drewN ?_ _ | refine blk_drew ?_ | refine blk_alloc ?_ _)); exact BK131.out) hb); have n4_ := Aside0.mk (below_step (by repeat (first | (with_reducible first | exact HB.out | apply below_alloc | apply pw_below_drewN | apply below_drew1 | refine below_set ?_ GE130.out | refine below_set ?_ GE131.out) | exact HB.out)) hb); have n5_ := Aside0.mk (hbox); have n6_ := Aside0.mk ((by rw [hg]; exact (below_size (by repeat (first | (with_reducible first | exact HB.out | apply below_alloc | apply pw_below_drewN | apply below_drew1 | refine below_set ?_ GE130.out | refine below_set ?_ GE131.out) | exact HB.out))) : w.heap.size ≤ gb138)); have n7_ := Aside0.mk ((by rw [hg]; exact (below_size (by repeat (first | (with_reducible first | exact HB.out | apply below_alloc | apply pw_below_drewN | apply below_drew1 | refine below_set ?_ GE130.out | refine below_set ?_ GE131.out) | exact HB.out))) : w.heap.size ≤ gb138)); have n8_ := Aside0.mk ((by rw [hg]; exact Nat.ne_of_lt (blk_lt (g := gb130) (o := .cells #[.slice Ao48 t125.length co48] 24 (0, 0)) (by (with_reducible repeat (first | refine blk_drewN ?_ _ | refine blk_drew ?_ | refine blk_alloc ?_ _)); exact BK130.out)) : gb130 ≠ gb138)); have n9_ := Aside0.mk ((by rw [hg]; exact Nat.ne_of_gt (blk_lt (g := gb130) (o := .cells #[.slice Ao48 t125.length co48] 24 (0, 0)) (by (with_reducible repeat (first | refine blk_drewN ?_ _ | refine blk_drew ?_ | refine blk_alloc ?_ _)); exact BK130.out)) : gb138 ≠ gb130)); have n10_ := Aside0.mk ((by rw [hg]; exact Nat.ne_of_lt (blk_lt (g := gb131) (o := .cells #[.int .i64 t128, .int .i64 t129] 30 (0, 0)) (by (with_reducible repeat (first | refine blk_drewN ?_ _ | refine blk_drew ?_ | refine blk_alloc ?_ _)); exact BK131.out)) : gb131 ≠ gb138)); have n11_ := Aside0.mk ((by rw [hg]; exact Nat.ne_of_gt (blk_lt (g := gb131) (o := .cells #[.int .i64 t128, .int .i64 t129] 30 (0, 0)) (by (with_reducible repeat (first | refine blk_drewN ?_ _ | refine blk_drew ?_ | refine blk_alloc ?_ _)); exact BK131.out)) : gb138 ≠ gb131)); clear HO127; clear HO134; clear BK130; clear BK131; clear HB; have HO127 := n0_; have HO134 := n1_; have BK130 := n2_; have BK131 := n3_; have HB := n4_; have BK138 := n5_; have GW138 := n6_; have GE138 := n7_; have NB130_138 := n8_; have NB138_130 := n9_; have NB131_138 := n10_; have NB138_131 := n11_; clear n0_ n1_ n2_ n3_ n4_ n5_ n6_ n7_ n8_ n9_ n10_ n11_; clear hb hbox hg; have hnb57 := NB138_130.out; have hnc57 := NB130_138.out; have hnb58 := NB138_131.out; have hnc58 := NB131_138.out; have hcz59_0 : w56.cell? ⟨gb138, 0, none⟩ = some (.int .i64 0) := (blk_cell BK138.out 0).trans rfl; have hcz59_1 : w56.cell? ⟨gb138, 1, none⟩ = some (.int .i64 0) := (blk_cell BK138.out 1).trans rfl; have hfz59_0 := blk_frozen BK138.out 0; have hfz59_1 := blk_frozen BK138.out 1; have hcz60_0 : w56.cell? ⟨gb131, 0, none⟩ = some (.int .i64 t128) := (blk_cell BK131.out 0).trans rfl; have hcz60_1 : w56.cell? ⟨gb131, 1, none⟩ = some (.int .i64 t129) := (blk_cell BK131.out 1).trans rfl; have hfz60_0 := blk_frozen BK131.out 0; have hfz60_1 := blk_frozen BK131.out 1; have hcz61_0 : w56.cell? ⟨gb130, 0, none⟩ = some (.slice Ao48 t125.length co48) := (blk_cell BK130.out 0).trans rfl; have hfz61_0 := blk_frozen BK130.out 0) | (go_at_call 9; (with_reducible refine (charset_Check.calls _ _ t125 t139 _ ?side1 ?side2 A5.out).mono ?_); (case side1 => refine (Kd.R_reads' (e := 3) (base := w.heap.size) (ok := fun k_ => (True ∧ some k_ ≠ (.slice Ao54 y132.length co54 : Value).ownBlock)) (n := t125.length) (c := co48) ?_).2.2; exact (by (with_reducible repeat (first | apply Kd.R_alloc | apply Kd.R_drewN | apply Kd.R_drew)); exact (Kd.R_mono (Kd.R_far (p := ⟨gb138, 1, none⟩) (Kd.R_far (p := ⟨gb138, 0, none⟩) (Kd.R_types HO127.out BK138.out (by decide)) (fun _ hk => hk.2) (.int .i64 t136)) (fun _ hk => hk.2) (.int .i64 t137)) (fun _ h_ => h_.1)))); (case side2 => exact (Kd.R_reads' HO127.out).2.1); rintro e w62 ⟨rfl, hb⟩; have n0_ := Aside0.mk (Kd.R_below (by (with_reducible repeat (first | apply Kd.R_alloc | apply Kd.R_drewN | apply Kd.R_drew)); exact (Kd.R_mono (Kd.R_far (p := ⟨gb138, 1, none⟩) (Kd.R_far (p := ⟨gb138, 0, none⟩) (Kd.R_types HO127.out BK138.out (by decide)) (fun _ hk => hk.2) (.int .i64 t136)) (fun _ hk => hk.2) (.int .i64 t137)) (fun _ h_ => h_.1))) hb); have n1_ := Aside0.mk (Kd.R_below (by (with_reducible repeat (first | apply Kd.R_alloc | apply Kd.R_drewN | apply Kd.R_drew)); exact (Kd.R_mono (Kd.R_far (p := ⟨gb138, 1, none⟩) (Kd.R_far (p := ⟨gb138, 0, none⟩) (Kd.R_types HO134.out BK138.out (by decide)) (fun _ hk => hk.2) (.int .i64 t136)) (fun _ hk => hk.2) (.int .i64 t137)) (fun _ h_ => h_.1))) hb); have n2_ := Aside0.mk (blk_below (g := gb130) (o := .cells #[.slice Ao48 t125.length co48] 24 (0, 0)) (by (with_reducible repeat (first | refine blk_drewN ?_ _ | refine blk_drew ?_ | refine blk_alloc ?_ _)); refine blk_far ?_ NB130_138.out _; (with_reducible repeat (first | refine blk_drewN ?_ _ | refine blk_drew ?_ | refine blk_alloc ?_ _)); refine blk_far ?_ NB130_138.out _; (with_reducible repeat (first | refine blk_drewN ?_ _ | refine blk_drew ?_ | refine blk_alloc ?_ _)); exact BK130.out) hb); have n3_ := Aside0.mk (blk_below (g := gb131) (o := .cells #[.int .i64 t128, .int .i64 t129] 30 (0, 0)) (by (with_reducible repeat (first | refine blk_drewN ?_ _ | refine blk_drew ?_ | refine blk_alloc ?_ _)); refine blk_far ?_ NB131_138.out _; (with_reducible repeat (first | refine blk_drewN ?_ _ | refine blk_drew ?_ | refine blk_alloc ?_ _)); refine blk_far ?_ NB131_138.out _; (with_reducible repeat (first | refine blk_drewN ?_ _ | refine blk_drew ?_ | refine blk_alloc ?_ _)); exact BK131.out) hb); have n4_ := Aside0.mk (blk_below (g := gb138) (o := .cells #[.int .i64 t136, .int .i64 t137] 30 (0, 0)) (by (with_reducible repeat (first | refine blk_drewN ?_ _ | refine blk_drew ?_ | refine blk_alloc ?_ _)); refine blk_put (cs := #[.int .i64 t136, .int .i64 0]) ?_ 1 _ rfl; (with_reducible repeat (first | refine blk_drewN ?_ _ | refine blk_drew ?_ | refine blk_alloc ?_ _)); refine blk_put (cs := #[.int .i64 0, .int .i64 0]) ?_ 0 _ rfl; (with_reducible repeat (first | refine blk_drewN ?_ _ | refine blk_drew ?_ | refine blk_alloc ?_ _)); exact BK138.out) hb); have n5_ := Aside0.mk (below_step (by repeat (first | (with_reducible first | exact HB.out | apply below_alloc | apply pw_below_drewN | apply below_drew1 | refine below_set ?_ GE130.out | refine below_set ?_ GE131.out | refine below_set ?_ GE138.out) | exact HB.out)) hb); clear HO127; clear HO134; clear BK130; clear BK131; clear BK138; clear HB; have HO127 := n0_; have HO134 := n1_; have BK130 := n2_; have BK131 := n3_; have BK138 := n4_; have HB := n5_; clear n0_ n1_ n2_ n3_ n4_ n5_; (try clear hb); (try clear hb2); (try clear hk); (try clear hi)))
        go_ret
        exact ⟨by first | rfl | (simp [errW_none, errW_some] <;> rfl) | (simp [*, errW_none, errW_some] <;> rfl), by repeat (first | (with_reducible first | exact HB.out | apply below_alloc | apply pw_below_drewN | apply below_drew1 | refine below_set ?_ GE130.out | refine below_set ?_ GE131.out | refine below_set ?_ GE138.out) | exact HB.out)⟩
    · rw [if_neg c4] at H
      have c4b0 : ((t125.length : Int) == 256) = false := beq_eq_false_iff_ne.mpr c4
      have c4b1 : ((t125.length : Int) != 256) = true := bne_iff_ne.mpr c4
      obtain rfl := Option.some.inj H
      go_enter Tryd.func11, Tryd.ntmps11
      go_wp2_with (first | ((with_reducible refine gate_callee (f := 14) rfl ?_); refine goesL_ (some 6) rfl rfl Tryd.func14 (by kernel_rfl) rfl #[.string (⟨#[52, 49, 32, 48, 48, 52, 49, 10, 10, 51, 70, 32, 48, 48, 51, 70]⟩ : ByteArray)] rfl (by (try simp only [List.map_toArray, List.map_cons, List.map_nil]); first | done | rfl | (simp only [List.length_drop, List.length_take]; rfl)) ?_; (with_reducible refine (charset_Parse.calls (⟨#[52, 49, 32, 48, 48, 52, 49, 10, 10, 51, 70, 32, 48, 48, 51, 70]⟩ : ByteArray) t125 t128 t129 _ A1.out).mono ?_); rintro e w63 ⟨v126, rfl, ho0, hb⟩; refine ⟨_, rfl, ?_⟩; have n0_ := Aside0.mk (Kd.R_lower ho0 (below_size (by repeat (first | (with_reducible first | exact HB.out | apply below_alloc | apply pw_below_drewN | apply below_drew1) | exact HB.out)))); have n1_ := Aside0.mk (below_step (by repeat (first | (with_reducible first | exact HB.out | apply below_alloc | apply pw_below_drewN | apply below_drew1) | exact HB.out)) hb); clear HB; have HO127 := n0_; have HB := n1_; clear n0_ n1_; (try clear hb); (try clear hb2); (try clear hk); (try clear hi); (try clear ho0)) | ((with_reducible refine gate_dst (N := 1) rfl ?_); (try (refine gate_guard (by rfl) ?_; dsimp only)); refine box_event ?hg (N := 1) ?hd (cs := #[.slice none 0 0]) (t := 24) ?hr ?_; (case hd => rfl); (case hg => rfl); (case hr => first | (go_simp; done) | (go_simp; rfl)); intro gb130 hg w64 hbox hb; have n0_ := Aside0.mk (Kd.R_below (by (with_reducible repeat (first | apply Kd.R_alloc | apply Kd.R_drewN | apply Kd.R_drew)); exact HO127.out) hb); have n1_ := Aside0.mk (below_step (by repeat (first | (with_reducible first | exact HB.out | apply below_alloc | apply pw_below_drewN | apply below_drew1) | exact HB.out)) hb); have n2_ := Aside0.mk (hbox); have n3_ := Aside0.mk ((by rw [hg]; exact (below_size (by repeat (first | (with_reducible first | exact HB.out | apply below_alloc | apply pw_below_drewN | apply below_drew1) | exact HB.out))) : w.heap.size ≤ gb130)); have n4_ := Aside0.mk ((by rw [hg]; exact (below_size (by repeat (first | (with_reducible first | exact HB.out | apply below_alloc | apply pw_below_drewN | apply below_drew1) | exact HB.out))) : w.heap.size ≤ gb130)); clear HO127; clear HB; have HO127 := n0_; have HB := n1_; have BK130 := n2_; have GW130 := n3_; have GE130 := n4_; clear n0_ n1_ n2_ n3_ n4_; clear hb hbox hg) | ((with_reducible refine gate_dst (N := 2) rfl ?_); (try (refine gate_guard (by rfl) ?_; dsimp only)); refine box_event ?hg (N := 2) ?hd (cs := #[.int .i64 0, .int .i64 0]) (t := 30) ?hr ?_; (case hd => rfl); (case hg => rfl); (case hr => first | (go_simp; done) | (go_simp; rfl)); intro gb131 hg w65 hbox hb; have n0_ := Aside0.mk (Kd.R_below (by (with_reducible repeat (first | apply Kd.R_alloc | apply Kd.R_drewN | apply Kd.R_drew)); exact HO127.out) hb); have n1_ := Aside0.mk (blk_below (g := gb130) (o := .cells #[.slice none 0 0] 24 (0, 0)) (by (with_reducible repeat (first | refine blk_drewN ?_ _ | refine blk_drew ?_ | refine blk_alloc ?_ _)); exact BK130.out) hb); have n2_ := Aside0.mk (below_step (by repeat (first | (with_reducible first | exact HB.out | apply below_alloc | apply pw_below_drewN | apply below_drew1 | refine below_set ?_ GE130.out) | exact HB.out)) hb); have n3_ := Aside0.mk (hbox); have n4_ := Aside0.mk ((by rw [hg]; exact (below_size (by repeat (first | (with_reducible first | exact HB.out | apply below_alloc | apply pw_below_drewN | apply below_drew1 | refine below_set ?_ GE130.out) | exact HB.out))) : w.heap.size ≤ gb131)); have n5_ := Aside0.mk ((by rw [hg]; exact (below_size (by repeat (first | (with_reducible first | exact HB.out | apply below_alloc | apply pw_below_drewN | apply below_drew1 | refine below_set ?_ GE130.out) | exact HB.out))) : w.heap.size ≤ gb131)); have n6_ := Aside0.mk ((by rw [hg]; exact Nat.ne_of_lt (blk_lt (g := gb130) (o := .cells #[.slice none 0 0] 24 (0, 0)) (by (with_reducible repeat (first | refine blk_drewN ?_ _ | refine blk_drew ?_ | refine blk_alloc ?_ _)); exact BK130.out)) : gb130 ≠ gb131)); have n7_ := Aside0.mk ((by rw [hg]; exact Nat.ne_of_gt (blk_lt (g := gb130) (o := .cells #[.slice none 0 0] 24 (0, 0)) (by (with_reducible repeat (first | refine blk_drewN ?_ _ | refine blk_drew ?_ | refine blk_alloc ?_ _)); exact BK130.out)) : gb131 ≠ gb130)); clear HO127; clear BK130; clear HB; have HO127 := n0_; have BK130 := n1_; have HB := n2_; have BK131 := n3_; have GW131 := n4_; have GE131 := n5_; have NB130_131 := n6_; have NB131_130 := n7_; clear n0_ n1_ n2_ n3_ n4_ n5_ n6_ n7_; clear hb hbox hg; obtain ⟨Ao66, co66, eo66⟩ := Kd.R_slice HO127.out; subst eo66; have hnb67 := NB130_131.out; have hnc67 := NB131_130.out; have hcz68_0 : w65.cell? ⟨gb130, 0, none⟩ = some (.slice none 0 0) := (blk_cell BK130.out 0).trans rfl; have hfz68_0 := blk_frozen BK130.out 0; have hcz69_0 : w65.cell? ⟨gb131, 0, none⟩ = some (.int .i64 0) := (blk_cell BK131.out 0).trans rfl; have hcz69_1 : w65.cell? ⟨gb131, 1, none⟩ = some (.int .i64 0) := (blk_cell BK131.out 1).trans rfl; have hfz69_0 := blk_frozen BK131.out 0; have hfz69_1 := blk_frozen BK131.out 1) | ((with_reducible refine gate_dst (N := 11) rfl ?_); (try (refine gate_guard (by rfl) ?_; dsimp only)); refine Kd.R_lit (Kd.int .i64) _ 3 ?hg (N := 11) ?hd (xs := ([233, 65] : List Int)) (inner := [.int .i64 233, .int .i64 65]) (ok := fun _ => True) (okp := fun _ => True) ?hr ?hp (fun _ hk => hk) trivial (Below.refl _ _) (Nat.le_refl _) (by simp) ?_; (case hd => rfl); (case hg => rfl); (case hr => first | (go_simp; done) | (go_simp; rfl)); (case hp => exact (Reps.one (show Kd.M (Kd.int .i64) _ _ _ 233 [.int .i64 233] from rfl) (Reps.one (show Kd.M (Kd.int .i64) _ _ _ 65 [.int .i64 65] from rfl) (Reps.none _ _)))); intro v133 w70 ho71 hb hg_ hnew_; clear hg_ hnew_; (first | rw [← Ny132.out] at ho71 | (simp only [Int.reduceToNat] at ho71; rw [← Ny132.out] at ho71)); have n0_ := Aside0.mk (Kd.R_elder' (by (with_reducible repeat (first | apply Kd.R_alloc | apply Kd.R_drewN | apply Kd.R_drew)); exact (Kd.R_mono (Kd.R_mono (Kd.R_far (p := ⟨gb131, 1, none⟩) (Kd.R_far (p := ⟨gb131, 0, none⟩) (Kd.R_far (p := ⟨gb130, 0, none⟩) (Kd.R_types (Kd.R_types HO127.out BK130.out (by decide)) BK131.out (by decide)) (fun _ hk => hk.1.2) (.slice Ao66 t125.length co66)) (fun _ hk => hk.2) (.int .i64 t128)) (fun _ hk => hk.2) (.int .i64 t129)) (fun _ h_ => h_.1)) (fun _ h_ => h_.1))) (Kd.R_base ho71) hb); have n1_ := Aside0.mk (Kd.R_lower (Kd.R_new' ho71 (Kd.R_lt (by (with_reducible repeat (first | apply Kd.R_alloc | apply Kd.R_drewN | apply Kd.R_drew)); exact (Kd.R_mono (Kd.R_mono (Kd.R_far (p := ⟨gb131, 1, none⟩) (Kd.R_far (p := ⟨gb131, 0, none⟩) (Kd.R_far (p := ⟨gb130, 0, none⟩) (Kd.R_types (Kd.R_types HO127.out BK130.out (by decide)) BK131.out (by decide)) (fun _ hk => hk.1.2) (.slice Ao66 t125.length co66)) (fun _ hk => hk.2) (.int .i64 t128)) (fun _ hk => hk.2) (.int .i64 t129)) (fun _ h_ => h_.1)) (fun _ h_ => h_.1))))) (below_size (by repeat (first | (with_reducible first | exact HB.out | apply below_alloc | apply pw_below_drewN | apply below_drew1 | refine below_set ?_ GE130.out | refine below_set ?_ GE131.out) | exact HB.out)))); have n2_ := Aside0.mk (blk_below (g := gb130) (o := .cells #[.slice Ao66 t125.length co66] 24 (0, 0)) (by (with_reducible repeat (first | refine blk_drewN ?_ _ | refine blk_drew ?_ | refine blk_alloc ?_ _)); refine blk_far ?_ NB130_131.out _; (with_reducible repeat (first | refine blk_drewN ?_ _ | refine blk_drew ?_ | refine blk_alloc ?_ _)); refine blk_far ?_ NB130_131.out _; (with_reducible repeat (first | refine blk_drewN ?_ _ | refine blk_drew ?_ | refine blk_alloc ?_ _)); refine blk_put (cs := #[.slice none 0 0]) ?_ 0 _ rfl; (with_reducible repeat (first | refine blk_drewN ?_ _ | refine blk_drew ?_ | refine blk_alloc ?_ _)); exact BK130.out) hb); have n3_ := Aside0.mk (blk_below (g := gb131) (o := .cells #[.int .i64 t128, .int .i64 t129] 30 (0, 0)) (by (with_reducible repeat (first | refine blk_drewN ?_ _ | refine blk_drew ?_ | refine blk_alloc ?_ _)); refine blk_put (cs := #[.int .i64 t128, .int .i64 0]) ?_ 1 _ rfl; (with_reducible repeat (first | refine blk_drewN ?_ _ | refine blk_drew ?_ | refine blk_alloc ?_ _)); refine blk_put (cs := #[.int .i64 0, .int .i64 0]) ?_ 0 _ rfl; (with_reducible repeat (first | refine blk_drewN ?_ _ | refine blk_drew ?_ | refine blk_alloc ?_ _)); refine blk_far ?_ NB131_130.out _; (with_reducible repeat (first | refine blk_drewN ?_ _ | refine blk_drew ?_ | refine blk_alloc ?_ _)); exact BK131.out) hb); have n4_ := Aside0.mk (below_step (by repeat (first | (with_reducible first | exact HB.out | apply below_alloc | apply pw_below_drewN | apply below_drew1 | refine below_set ?_ GE130.out | refine below_set ?_ GE131.out) | exact HB.out)) hb); clear HO127; clear BK130; clear BK131; clear HB; have HO127 := n0_; have HO134 := n1_; have BK130 := n2_; have BK131 := n3_; have HB := n4_; clear n0_ n1_ n2_ n3_ n4_; clear hb ho71; obtain ⟨Ao72, co72, eo72⟩ := Kd.R_slice HO134.out; subst eo72) | ((with_reducible refine gate_callee (f := 12) rfl ?_); refine goesL_ (some 12) rfl rfl Tryd.func12 (by kernel_rfl) rfl #[.agg #[.slice Ao66 t125.length co66], .slice Ao72 y132.length co72, .int .i64 2] rfl (by (try simp only [List.map_toArray, List.map_cons, List.map_nil]); first | done | rfl | (simp only [List.length_drop, List.length_take]; rfl)) ?_; (with_reducible refine (charset_Encode.calls _ _ t125 _ _ y132 2 t135 t136 t137 _ ?side1 ?side2 ?side3 ?side4 A2.out).mono ?_); (case side1 => repeat (first | exact (Kd.R_reads' HO127.out).2.2 | (with_reducible refine Kd.C_alloc ?_ _) | (with_reducible refine Kd.C_drewN ?_ _) | (with_reducible refine Kd.C_drew ?_))); (case side2 => exact (Kd.R_reads' HO127.out).2.1); (case side3 => repeat (first | exact (Kd.R_reads' HO134.out).2.2 | (with_reducible refine Kd.C_alloc ?_ _) | (with_reducible refine Kd.C_drewN ?_ _) | (with_reducible refine Kd.C_drew ?_))); (case side4 => exact (Kd.R_reads' HO134.out).2.1); rintro e w73 ⟨rfl, hb⟩; refine ⟨_, rfl, ?_⟩; have n0_ := Aside0.mk (Kd.R_below (by (with_reducible repeat (first | apply Kd.R_alloc | apply Kd.R_drewN | apply Kd.R_drew)); exact HO127.out) hb); have n1_ := Aside0.mk (Kd.R_below (by (with_reducible repeat (first | apply Kd.R_alloc | apply Kd.R_drewN | apply Kd.R_drew)); exact HO134.out) hb); have n2_ := Aside0.mk (blk_below (g := gb130) (o := .cells #[.slice Ao66 t125.length co66] 24 (0, 0)) (by (with_reducible repeat (first | refine blk_drewN ?_ _ | refine blk_drew ?_ | refine blk_alloc ?_ _)); exact BK130.out) hb); have n3_ := Aside0.mk (blk_below (g := gb131) (o := .cells #[.int .i64 t128, .int .i64 t129] 30 (0, 0)) (by (with_reducible repeat (first | refine blk_drewN ?_ _ | refine blk_drew ?_ | refine blk_alloc ?_ _)); exact BK131.out) hb); have n4_ := Aside0.mk (below_step (by repeat (first | (with_reducible first | exact HB.out | apply below_alloc | apply pw_below_drewN | apply below_drew1 | refine below_set ?_ GE130.out | refine below_set ?_ GE131.out) | exact HB.out)) hb); clear HO127; clear HO134; clear BK130; clear BK131; clear HB; have HO127 := n0_; have HO134 := n1_; have BK130 := n2_; have BK131 := n3_; have HB := n4_; clear n0_ n1_ n2_ n3_ n4_; (try clear hb); (try clear hb2); (try clear hk); (try clear hi)) | ((with_reducible refine gate_dst (N := 4) rfl ?_); (try (refine gate_guard (by rfl) ?_; dsimp only)); refine box_event ?hg (N := 4) ?hd (cs := #[.int .i64 0, .int .i64 0]) (t := 30) ?hr ?_; (case hd => rfl); (case hg => rfl); (case hr => first | (go_simp; done) | (go_simp; rfl)); intro gb138 hg w74 hbox hb; have n0_ := Aside0.mk (Kd.R_below (by (with_reducible repeat (first | apply Kd.R_alloc | apply Kd.R_drewN | apply Kd.R_drew)); exact HO127.out) hb); have n1_ := Aside0.mk (Kd.R_below (by (with_reducible repeat (first | apply Kd.R_alloc | apply Kd.R_drewN | apply Kd.R_drew)); exact HO134.out) hb); have n2_ := Aside0.mk (blk_below (g := gb130) (o := .cells #[.slice Ao66 t125.length co66] 24 (0, 0)) (by (with_reducible repeat (first | refine blk_drewN ?_ _ | refine blk_drew ?_ | refine blk_alloc ?_ _)); exact BK130.out) hb); have n3_ := Aside0.mk (blk_below (g := gb131) (o := .cells #[.int .i64 t128, .int .i64 t129] 30 (0, 0)) (by (with_reducible repeat (first | refine blk_drewN ?_ _ | refine blk_drew ?_ | refine blk_alloc ?_ _)); exact BK131.out) hb); have n4_ := Aside0.mk (below_step (by repeat (first | (with_reducible first | exact HB.out | apply below_alloc | apply pw_below_drewN | apply below_drew1 | refine below_set ?_ GE130.out | refine below_set ?_ GE131.out) | exact HB.out)) hb); have n5_ := Aside0.mk (hbox); have n6_ := Aside0.mk ((by rw [hg]; exact (below_size (by repeat (first | (with_reducible first | exact HB.out | apply below_alloc | apply pw_below_drewN | apply below_drew1 | refine below_set ?_ GE130.out | refine below_set ?_ GE131.out) | exact HB.out))) : w.heap.size ≤ gb138)); have n7_ := Aside0.mk ((by rw [hg]; exact (below_size (by repeat (first | (with_reducible first | exact HB.out | apply below_alloc | apply pw_below_drewN | apply below_drew1 | refine below_set ?_ GE130.out | refine below_set ?_ GE131.out) | exact HB.out))) : w.heap.size ≤ gb138)); have n8_ := Aside0.mk ((by rw [hg]; exact Nat.ne_of_lt (blk_lt (g := gb130) (o := .cells #[.slice Ao66 t125.length co66] 24 (0, 0)) (by (with_reducible repeat (first | refine blk_drewN ?_ _ | refine blk_drew ?_ | refine blk_alloc ?_ _)); exact BK130.out)) : gb130 ≠ gb138)); have n9_ := Aside0.mk ((by rw [hg]; exact Nat.ne_of_gt (blk_lt (g := gb130) (o := .cells #[.slice Ao66 t125.length co66] 24 (0, 0)) (by (with_reducible repeat (first | refine blk_drewN ?_ _ | refine blk_drew ?_ | refine blk_alloc ?_ _)); exact BK130.out)) : gb138 ≠ gb130)); have n10_ := Aside0.mk ((by rw [hg]; exact Nat.ne_of_lt (blk_lt (g := gb131) (o := .cells #[.int .i64 t128, .int .i64 t129] 30 (0, 0)) (by (with_reducible repeat (first | refine blk_drewN ?_ _ | refine blk_drew ?_ | refine blk_alloc ?_ _)); exact BK131.out)) : gb131 ≠ gb138)); have n11_ := Aside0.mk ((by rw [hg]; exact Nat.ne_of_gt (blk_lt (g := gb131) (o := .cells #[.int .i64 t128, .int .i64 t129] 30 (0, 0)) (by (with_reducible repeat (first | refine blk_drewN ?_ _ | refine blk_drew ?_ | refine blk_alloc ?_ _)); exact BK131.out)) : gb138 ≠ gb131)); clear HO127; clear HO134; clear BK130; clear BK131; clear HB; have HO127 := n0_; have HO134 := n1_; have BK130 := n2_; have BK131 := n3_; have HB := n4_; have BK138 := n5_; have GW138 := n6_; have GE138 := n7_; have NB130_138 := n8_; have NB138_130 := n9_; have NB131_138 := n10_; have NB138_131 := n11_; clear n0_ n1_ n2_ n3_ n4_ n5_ n6_ n7_ n8_ n9_ n10_ n11_; clear hb hbox hg; have hnb75 := NB138_130.out; have hnc75 := NB130_138.out; have hnb76 := NB138_131.out; have hnc76 := NB131_138.out; have hcz77_0 : w74.cell? ⟨gb138, 0, none⟩ = some (.int .i64 0) := (blk_cell BK138.out 0).trans rfl; have hcz77_1 : w74.cell? ⟨gb138, 1, none⟩ = some (.int .i64 0) := (blk_cell BK138.out 1).trans rfl; have hfz77_0 := blk_frozen BK138.out 0; have hfz77_1 := blk_frozen BK138.out 1; have hcz78_0 : w74.cell? ⟨gb131, 0, none⟩ = some (.int .i64 t128) := (blk_cell BK131.out 0).trans rfl; have hcz78_1 : w74.cell? ⟨gb131, 1, none⟩ = some (.int .i64 t129) := (blk_cell BK131.out 1).trans rfl; have hfz78_0 := blk_frozen BK131.out 0; have hfz78_1 := blk_frozen BK131.out 1; have hcz79_0 : w74.cell? ⟨gb130, 0, none⟩ = some (.slice Ao66 t125.length co66) := (blk_cell BK130.out 0).trans rfl; have hfz79_0 := blk_frozen BK130.out 0))
      go_ret
      exact ⟨by first | rfl | (simp [errW_none, errW_some] <;> rfl) | (simp [*, errW_none, errW_some] <;> rfl), by repeat (first | (with_reducible first | exact HB.out | apply below_alloc | apply pw_below_drewN | apply below_drew1 | refine below_set ?_ GE130.out | refine below_set ?_ GE131.out | refine below_set ?_ GE138.out) | exact HB.out)⟩
  · rw [if_neg c3] at H
    have c3b0 : (t128 == 0 && (t129 == 0)) = false := by simpa using c3
    (try (have c3b1 : decide (t128 = 0 && (t129 == 0)) = false := by simpa using c3))
    (try (have c3b2 : (t128 == 0 && (t129 == 0)) = false := by simpa using c3))
    (try (have c3b3 : ¬ (t128 = 0 && (t129 == 0)) := by simpa using c3))
    clear c3
    obtain rfl := Option.some.inj H
    go_enter Tryd.func11, Tryd.ntmps11
    go_wp2_with (first | ((with_reducible refine gate_callee (f := 14) rfl ?_); refine goesL_ (some 6) rfl rfl Tryd.func14 (by kernel_rfl) rfl #[.string (⟨#[52, 49, 32, 48, 48, 52, 49, 10, 10, 51, 70, 32, 48, 48, 51, 70]⟩ : ByteArray)] rfl (by (try simp only [List.map_toArray, List.map_cons, List.map_nil]); first | done | rfl | (simp only [List.length_drop, List.length_take]; rfl)) ?_; (with_reducible refine (charset_Parse.calls (⟨#[52, 49, 32, 48, 48, 52, 49, 10, 10, 51, 70, 32, 48, 48, 51, 70]⟩ : ByteArray) t125 t128 t129 _ A1.out).mono ?_); rintro e w80 ⟨v126, rfl, ho0, hb⟩; refine ⟨_, rfl, ?_⟩; have n0_ := Aside0.mk (Kd.R_lower ho0 (below_size (by repeat (first | (with_reducible first | exact HB.out | apply below_alloc | apply pw_below_drewN | apply below_drew1) | exact HB.out)))); have n1_ := Aside0.mk (below_step (by repeat (first | (with_reducible first | exact HB.out | apply below_alloc | apply pw_below_drewN | apply below_drew1) | exact HB.out)) hb); clear HB; have HO127 := n0_; have HB := n1_; clear n0_ n1_; (try clear hb); (try clear hb2); (try clear hk); (try clear hi); (try clear ho0)) | ((with_reducible refine gate_dst (N := 1) rfl ?_); (try (refine gate_guard (by rfl) ?_; dsimp only)); refine box_event ?hg (N := 1) ?hd (cs := #[.slice none 0 0]) (t := 24) ?hr ?_; (case hd => rfl); (case hg => rfl); (case hr => first | (go_simp; done) | (go_simp; rfl)); intro gb130 hg w81 hbox hb; have n0_ := Aside0.mk (Kd.R_below (by (with_reducible repeat (first | apply Kd.R_alloc | apply Kd.R_drewN | apply Kd.R_drew)); exact HO127.out) hb); have n1_ := Aside0.mk (below_step (by repeat (first | (with_reducible first | exact HB.out | apply below_alloc | apply pw_below_drewN | apply below_drew1) | exact HB.out)) hb); have n2_ := Aside0.mk (hbox); have n3_ := Aside0.mk ((by rw [hg]; exact (below_size (by repeat (first | (with_reducible first | exact HB.out | apply below_alloc | apply pw_below_drewN | apply below_drew1) | exact HB.out))) : w.heap.size ≤ gb130)); have n4_ := Aside0.mk ((by rw [hg]; exact (below_size (by repeat (first | (with_reducible first | exact HB.out | apply below_alloc | apply pw_below_drewN | apply below_drew1) | exact HB.out))) : w.heap.size ≤ gb130)); clear HO127; clear HB; have HO127 := n0_; have HB := n1_; have BK130 := n2_; have GW130 := n3_; have GE130 := n4_; clear n0_ n1_ n2_ n3_ n4_; clear hb hbox hg) | ((with_reducible refine gate_dst (N := 2) rfl ?_); (try (refine gate_guard (by rfl) ?_; dsimp only)); refine box_event ?hg (N := 2) ?hd (cs := #[.int .i64 0, .int .i64 0]) (t := 30) ?hr ?_; (case hd => rfl); (case hg => rfl); (case hr => first | (go_simp; done) | (go_simp; rfl)); intro gb131 hg w82 hbox hb; have n0_ := Aside0.mk (Kd.R_below (by (with_reducible repeat (first | apply Kd.R_alloc | apply Kd.R_drewN | apply Kd.R_drew)); exact HO127.out) hb); have n1_ := Aside0.mk (blk_below (g := gb130) (o := .cells #[.slice none 0 0] 24 (0, 0)) (by (with_reducible repeat (first | refine blk_drewN ?_ _ | refine blk_drew ?_ | refine blk_alloc ?_ _)); exact BK130.out) hb); have n2_ := Aside0.mk (below_step (by repeat (first | (with_reducible first | exact HB.out | apply below_alloc | apply pw_below_drewN | apply below_drew1 | refine below_set ?_ GE130.out) | exact HB.out)) hb); have n3_ := Aside0.mk (hbox); have n4_ := Aside0.mk ((by rw [hg]; exact (below_size (by repeat (first | (with_reducible first | exact HB.out | apply below_alloc | apply pw_below_drewN | apply below_drew1 | refine below_set ?_ GE130.out) | exact HB.out))) : w.heap.size ≤ gb131)); have n5_ := Aside0.mk ((by rw [hg]; exact (below_size (by repeat (first | (with_reducible first | exact HB.out | apply below_alloc | apply pw_below_drewN | apply below_drew1 | refine below_set ?_ GE130.out) | exact HB.out))) : w.heap.size ≤ gb131)); have n6_ := Aside0.mk ((by rw [hg]; exact Nat.ne_of_lt (blk_lt (g := gb130) (o := .cells #[.slice none 0 0] 24 (0, 0)) (by (with_reducible repeat (first | refine blk_drewN ?_ _ | refine blk_drew ?_ | refine blk_alloc ?_ _)); exact BK130.out)) : gb130 ≠ gb131)); have n7_ := Aside0.mk ((by rw [hg]; exact Nat.ne_of_gt (blk_lt (g := gb130) (o := .cells #[.slice none 0 0] 24 (0, 0)) (by (with_reducible repeat (first | refine blk_drewN ?_ _ | refine blk_drew ?_ | refine blk_alloc ?_ _)); exact BK130.out)) : gb131 ≠ gb130)); clear HO127; clear BK130; clear HB; have HO127 := n0_; have BK130 := n1_; have HB := n2_; have BK131 := n3_; have GW131 := n4_; have GE131 := n5_; have NB130_131 := n6_; have NB131_130 := n7_; clear n0_ n1_ n2_ n3_ n4_ n5_ n6_ n7_; clear hb hbox hg; obtain ⟨Ao83, co83, eo83⟩ := Kd.R_slice HO127.out; subst eo83; have hnb84 := NB130_131.out; have hnc84 := NB131_130.out; have hcz85_0 : w82.cell? ⟨gb130, 0, none⟩ = some (.slice none 0 0) := (blk_cell BK130.out 0).trans rfl; have hfz85_0 := blk_frozen BK130.out 0; have hcz86_0 : w82.cell? ⟨gb131, 0, none⟩ = some (.int .i64 0) := (blk_cell BK131.out 0).trans rfl; have hcz86_1 : w82.cell? ⟨gb131, 1, none⟩ = some (.int .i64 0) := (blk_cell BK131.out 1).trans rfl; have hfz86_0 := blk_frozen BK131.out 0; have hfz86_1 := blk_frozen BK131.out 1) | ((with_reducible refine gate_dst (N := 11) rfl ?_); (try (refine gate_guard (by rfl) ?_; dsimp only)); refine Kd.R_lit (Kd.int .i64) _ 3 ?hg (N := 11) ?hd (xs := ([233, 65] : List Int)) (inner := [.int .i64 233, .int .i64 65]) (ok := fun _ => True) (okp := fun _ => True) ?hr ?hp (fun _ hk => hk) trivial (Below.refl _ _) (Nat.le_refl _) (by simp) ?_; (case hd => rfl); (case hg => rfl); (case hr => first | (go_simp; done) | (go_simp; rfl)); (case hp => exact (Reps.one (show Kd.M (Kd.int .i64) _ _ _ 233 [.int .i64 233] from rfl) (Reps.one (show Kd.M (Kd.int .i64) _ _ _ 65 [.int .i64 65] from rfl) (Reps.none _ _)))); intro v133 w87 ho88 hb hg_ hnew_; clear hg_ hnew_; (first | rw [← Ny132.out] at ho88 | (simp only [Int.reduceToNat] at ho88; rw [← Ny132.out] at ho88)); have n0_ := Aside0.mk (Kd.R_elder' (by (with_reducible repeat (first | apply Kd.R_alloc | apply Kd.R_drewN | apply Kd.R_drew)); exact (Kd.R_mono (Kd.R_mono (Kd.R_far (p := ⟨gb131, 1, none⟩) (Kd.R_far (p := ⟨gb131, 0, none⟩) (Kd.R_far (p := ⟨gb130, 0, none⟩) (Kd.R_types (Kd.R_types HO127.out BK130.out (by decide)) BK131.out (by decide)) (fun _ hk => hk.1.2) (.slice Ao83 t125.length co83)) (fun _ hk => hk.2) (.int .i64 t128)) (fun _ hk => hk.2) (.int .i64 t129)) (fun _ h_ => h_.1)) (fun _ h_ => h_.1))) (Kd.R_base ho88) hb); have n1_ := Aside0.mk (Kd.R_lower (Kd.R_new' ho88 (Kd.R_lt (by (with_reducible repeat (first | apply Kd.R_alloc | apply Kd.R_drewN | apply Kd.R_drew)); exact (Kd.R_mono (Kd.R_mono (Kd.R_far (p := ⟨gb131, 1, none⟩) (Kd.R_far (p := ⟨gb131, 0, none⟩) (Kd.R_far (p := ⟨gb130, 0, none⟩) (Kd.R_types (Kd.R_types HO127.out BK130.out (by decide)) BK131.out (by decide)) (fun _ hk => hk.1.2) (.slice Ao83 t125.length co83)) (fun _ hk => hk.2) (.int .i64 t128)) (fun _ hk => hk.2) (.int .i64 t129)) (fun _ h_ => h_.1)) (fun _ h_ => h_.1))))) (below_size (by repeat (first | (with_reducible first | exact HB.out | apply below_alloc | apply pw_below_drewN | apply below_drew1 | refine below_set ?_ GE130.out | refine below_set ?_ GE131.out) | exact HB.out)))); have n2_ := Aside0.mk (blk_below (g := gb130) (o := .cells #[.slice Ao83 t125.length co83] 24 (0, 0)) (by (with_reducible repeat (first | refine blk_drewN ?_ _ | refine blk_drew ?_ | refine blk_alloc ?_ _)); refine blk_far ?_ NB130_131.out _; (with_reducible repeat (first | refine blk_drewN ?_ _ | refine blk_drew ?_ | refine blk_alloc ?_ _)); refine blk_far ?_ NB130_131.out _; (with_reducible repeat (first | refine blk_drewN ?_ _ | refine blk_drew ?_ | refine blk_alloc ?_ _)); refine blk_put (cs := #[.slice none 0 0]) ?_ 0 _ rfl; (with_reducible repeat (first | refine blk_drewN ?_ _ | refine blk_drew ?_ | refine blk_alloc ?_ _)); exact BK130.out) hb); have n3_ := Aside0.mk (blk_below (g := gb131) (o := .cells #[.int .i64 t128, .int .i64 t129] 30 (0, 0)) (by (with_reducible repeat (first | refine blk_drewN ?_ _ | refine blk_drew ?_ | refine blk_alloc ?_ _)); refine blk_put (cs := #[.int .i64 t128, .int .i64 0]) ?_ 1 _ rfl; (with_reducible repeat (first | refine blk_drewN ?_ _ | refine blk_drew ?_ | refine blk_alloc ?_ _)); refine blk_put (cs := #[.int .i64 0, .int .i64 0]) ?_ 0 _ rfl; (with_reducible repeat (first | refine blk_drewN ?_ _ | refine blk_drew ?_ | refine blk_alloc ?_ _)); refine blk_far ?_ NB131_130.out _; (with_reducible repeat (first | refine blk_drewN ?_ _ | refine blk_drew ?_ | refine blk_alloc ?_ _)); exact BK131.out) hb); have n4_ := Aside0.mk (below_step (by repeat (first | (with_reducible first | exact HB.out | apply below_alloc | apply pw_below_drewN | apply below_drew1 | refine below_set ?_ GE130.out | refine below_set ?_ GE131.out) | exact HB.out)) hb); clear HO127; clear BK130; clear BK131; clear HB; have HO127 := n0_; have HO134 := n1_; have BK130 := n2_; have BK131 := n3_; have HB := n4_; clear n0_ n1_ n2_ n3_ n4_; clear hb ho88; obtain ⟨Ao89, co89, eo89⟩ := Kd.R_slice HO134.out; subst eo89) | ((with_reducible refine gate_callee (f := 12) rfl ?_); refine goesL_ (some 12) rfl rfl Tryd.func12 (by kernel_rfl) rfl #[.agg #[.slice Ao83 t125.length co83], .slice Ao89 y132.length co89, .int .i64 2] rfl (by (try simp only [List.map_toArray, List.map_cons, List.map_nil]); first | done | rfl | (simp only [List.length_drop, List.length_take]; rfl)) ?_; (with_reducible refine (charset_Encode.calls _ _ t125 _ _ y132 2 t135 t136 t137 _ ?side1 ?side2 ?side3 ?side4 A2.out).mono ?_); (case side1 => repeat (first | exact (Kd.R_reads' HO127.out).2.2 | (with_reducible refine Kd.C_alloc ?_ _) | (with_reducible refine Kd.C_drewN ?_ _) | (with_reducible refine Kd.C_drew ?_))); (case side2 => exact (Kd.R_reads' HO127.out).2.1); (case side3 => repeat (first | exact (Kd.R_reads' HO134.out).2.2 | (with_reducible refine Kd.C_alloc ?_ _) | (with_reducible refine Kd.C_drewN ?_ _) | (with_reducible refine Kd.C_drew ?_))); (case side4 => exact (Kd.R_reads' HO134.out).2.1); rintro e w90 ⟨rfl, hb⟩; refine ⟨_, rfl, ?_⟩; have n0_ := Aside0.mk (Kd.R_below (by (with_reducible repeat (first | apply Kd.R_alloc | apply Kd.R_drewN | apply Kd.R_drew)); exact HO127.out) hb); have n1_ := Aside0.mk (Kd.R_below (by (with_reducible repeat (first | apply Kd.R_alloc | apply Kd.R_drewN | apply Kd.R_drew)); exact HO134.out) hb); have n2_ := Aside0.mk (blk_below (g := gb130) (o := .cells #[.slice Ao83 t125.length co83] 24 (0, 0)) (by (with_reducible repeat (first | refine blk_drewN ?_ _ | refine blk_drew ?_ | refine blk_alloc ?_ _)); exact BK130.out) hb); have n3_ := Aside0.mk (blk_below (g := gb131) (o := .cells #[.int .i64 t128, .int .i64 t129] 30 (0, 0)) (by (with_reducible repeat (first | refine blk_drewN ?_ _ | refine blk_drew ?_ | refine blk_alloc ?_ _)); exact BK131.out) hb); have n4_ := Aside0.mk (below_step (by repeat (first | (with_reducible first | exact HB.out | apply below_alloc | apply pw_below_drewN | apply below_drew1 | refine below_set ?_ GE130.out | refine below_set ?_ GE131.out) | exact HB.out)) hb); clear HO127; clear HO134; clear BK130; clear BK131; clear HB; have HO127 := n0_; have HO134 := n1_; have BK130 := n2_; have BK131 := n3_; have HB := n4_; clear n0_ n1_ n2_ n3_ n4_; (try clear hb); (try clear hb2); (try clear hk); (try clear hi)) | ((with_reducible refine gate_dst (N := 4) rfl ?_); (try (refine gate_guard (by rfl) ?_; dsimp only)); refine box_event ?hg (N := 4) ?hd (cs := #[.int .i64 0, .int .i64 0]) (t := 30) ?hr ?_; (case hd => rfl); (case hg => rfl); (case hr => first | (go_simp; done) | (go_simp; rfl)); intro gb138 hg w91 hbox hb; have n0_ := Aside0.mk (Kd.R_below (by (with_reducible repeat (first | apply Kd.R_alloc | apply Kd.R_drewN | apply Kd.R_drew)); exact HO127.out) hb); have n1_ := Aside0.mk (Kd.R_below (by (with_reducible repeat (first | apply Kd.R_alloc | apply Kd.R_drewN | apply Kd.R_drew)); exact HO134.out) hb); have n2_ := Aside0.mk (blk_below (g := gb130) (o := .cells #[.slice Ao83 t125.length co83] 24 (0, 0)) (by (with_reducible repeat (first | refine blk_drewN ?_ _ | refine blk_drew ?_ | refine blk_alloc ?_ _)); exact BK130.out) hb); have n3_ := Aside0.mk (blk_below (g := gb131) (o := .cells #[.int .i64 t128, .int .i64 t129] 30 (0, 0)) (by (with_reducible repeat (first | refine blk_drewN ?_ _ | refine blk_drew ?_ | refine blk_alloc ?_ _)); exact BK131.out) hb); have n4_ := Aside0.mk (below_step (by repeat (first | (with_reducible first | exact HB.out | apply below_alloc | apply pw_below_drewN | apply below_drew1 | refine below_set ?_ GE130.out | refine below_set ?_ GE131.out) | exact HB.out)) hb); have n5_ := Aside0.mk (hbox); have n6_ := Aside0.mk ((by rw [hg]; exact (below_size (by repeat (first | (with_reducible first | exact HB.out | apply below_alloc | apply pw_below_drewN | apply below_drew1 | refine below_set ?_ GE130.out | refine below_set ?_ GE131.out) | exact HB.out))) : w.heap.size ≤ gb138)); have n7_ := Aside0.mk ((by rw [hg]; exact (below_size (by repeat (first | (with_reducible first | exact HB.out | apply below_alloc | apply pw_below_drewN | apply below_drew1 | refine below_set ?_ GE130.out | refine below_set ?_ GE131.out) | exact HB.out))) : w.heap.size ≤ gb138)); have n8_ := Aside0.mk ((by rw [hg]; exact Nat.ne_of_lt (blk_lt (g := gb130) (o := .cells #[.slice Ao83 t125.length co83] 24 (0, 0)) (by (with_reducible repeat (first | refine blk_drewN ?_ _ | refine blk_drew ?_ | refine blk_alloc ?_ _)); exact BK130.out)) : gb130 ≠ gb138)); have n9_ := Aside0.mk ((by rw [hg]; exact Nat.ne_of_gt (blk_lt (g := gb130) (o := .cells #[.slice Ao83 t125.length co83] 24 (0, 0)) (by (with_reducible repeat (first | refine blk_drewN ?_ _ | refine blk_drew ?_ | refine blk_alloc ?_ _)); exact BK130.out)) : gb138 ≠ gb130)); have n10_ := Aside0.mk ((by rw [hg]; exact Nat.ne_of_lt (blk_lt (g := gb131) (o := .cells #[.int .i64 t128, .int .i64 t129] 30 (0, 0)) (by (with_reducible repeat (first | refine blk_drewN ?_ _ | refine blk_drew ?_ | refine blk_alloc ?_ _)); exact BK131.out)) : gb131 ≠ gb138)); have n11_ := Aside0.mk ((by rw [hg]; exact Nat.ne_of_gt (blk_lt (g := gb131) (o := .cells #[.int .i64 t128, .int .i64 t129] 30 (0, 0)) (by (with_reducible repeat (first | refine blk_drewN ?_ _ | refine blk_drew ?_ | refine blk_alloc ?_ _)); exact BK131.out)) : gb138 ≠ gb131)); clear HO127; clear HO134; clear BK130; clear BK131; clear HB; have HO127 := n0_; have HO134 := n1_; have BK130 := n2_; have BK131 := n3_; have HB := n4_; have BK138 := n5_; have GW138 := n6_; have GE138 := n7_; have NB130_138 := n8_; have NB138_130 := n9_; have NB131_138 := n10_; have NB138_131 := n11_; clear n0_ n1_ n2_ n3_ n4_ n5_ n6_ n7_ n8_ n9_ n10_ n11_; clear hb hbox hg; have hnb92 := NB138_130.out; have hnc92 := NB130_138.out; have hnb93 := NB138_131.out; have hnc93 := NB131_138.out; have hcz94_0 : w91.cell? ⟨gb138, 0, none⟩ = some (.int .i64 0) := (blk_cell BK138.out 0).trans rfl; have hcz94_1 : w91.cell? ⟨gb138, 1, none⟩ = some (.int .i64 0) := (blk_cell BK138.out 1).trans rfl; have hfz94_0 := blk_frozen BK138.out 0; have hfz94_1 := blk_frozen BK138.out 1; have hcz95_0 : w91.cell? ⟨gb131, 0, none⟩ = some (.int .i64 t128) := (blk_cell BK131.out 0).trans rfl; have hcz95_1 : w91.cell? ⟨gb131, 1, none⟩ = some (.int .i64 t129) := (blk_cell BK131.out 1).trans rfl; have hfz95_0 := blk_frozen BK131.out 0; have hfz95_1 := blk_frozen BK131.out 1))
    go_ret
    exact ⟨by first | rfl | (simp [errW_none, errW_some] <;> rfl) | (simp [*, errW_none, errW_some] <;> rfl), by repeat (first | (with_reducible first | exact HB.out | apply below_alloc | apply pw_below_drewN | apply below_drew1 | refine below_set ?_ GE130.out | refine below_set ?_ GE131.out | refine below_set ?_ GE138.out) | exact HB.out)⟩

/-! ### prelude calive -/
theorem calive_lines : linesB (⟨#[52, 49, 32, 48, 48, 52, 49, 10, 10, 51, 70, 32, 48, 48, 51, 70]⟩ : ByteArray) = [⟨#[52, 49, 32, 48, 48, 52, 49]⟩, ⟨#[]⟩, ⟨#[51, 70, 32, 48, 48, 51, 70]⟩] := by decide +kernel
theorem calive_f : unicodetextlaw06_alive.f = some true := by decide +kernel

end Go.Proofs.YtlgoagkgmndchaaDoor.PA

-- Laid by hprint.py (this session's program, over the kit's print) for the seat Ytneelkaelcilfaa. Lean checks it.
import Derived.Test.YtneelkaelcilfaaPOx0
import Derived.Test.YtneelkaelcilfaaPOx2
import Derived.Test.YtneelkaelcilfaaPOx4
import Derived.Test.YtneelkaelcilfaaPOx6
namespace Go.Proofs.Ytneelkaelcilfaa.PO
open Go.RowKit Go.Proofs.YtneelkaelcilfaaW.PrintWords Go.Proofs.YtneelkaelcilfaaW.PrintLast Go.Proofs.YtneelkaelcilfaaW.PrintMore
attribute [local go_sem] max2_int min2_int max_two min_two max_three min_three max_four min_four   -- for this text's walks alone
set_option linter.unusedVariables false
set_option linter.unusedSimpArgs false

/-! ### prelude iter -/
def keysRen : Go.Shelf.Ren := ⟨fun | 7 => 33 | 10 => 48 | n => n, fun | 23 => 50 | 26 => 9 | 3 => 4 | 28 => 53 | 0 => 0 | 27 => 52 | 33 => 39 | 4 => 4 | n => n, fun | n => n⟩
theorem keysLays : Go.Proofs.SlLaysZ.n7 Try.prog keysRen := {
  mixed := by kernel_rfl
  f7 := ⟨Try.f33.name, by decide, Try.func33.trans (congrArg some (by kernel_rfl))⟩
  f10 := ⟨Try.f48.name, by decide, Try.func48.trans (congrArg some (by kernel_rfl))⟩
  t0 := Try.underlying0
  a0 := Try.isAgg0
  z0 := Try.sizeOf0
  v0 := Try.zeroValue0
  t4 := Try.underlying4
  a4 := Try.isAgg4
  z4 := Try.sizeOf4
  v4 := Try.zeroValue4
  t23 := Try.underlying50
  a23 := Try.isAgg50
  z23 := Try.sizeOf50
  v23 := Try.zeroValue50
  t26 := Try.underlying9
  a26 := Try.isAgg9
  z26 := Try.sizeOf9
  v26 := Try.zeroValue9
  t27 := Try.underlying52
  a27 := Try.isAgg52
  z27 := Try.sizeOf52
  v27 := Try.zeroValue52
  t28 := Try.underlying53
  a28 := Try.isAgg53
  z28 := Try.sizeOf53
  v28 := Try.zeroValue53
  t33 := Try.underlying39
  a33 := Try.isAgg39
  z33 := Try.sizeOf39
  v33 := Try.zeroValue39 }
def sortedRen : Go.Shelf.Ren := ⟨fun | 6 => 32 | 8 => 46 | 9 => 47 | 11 => 54 | 13 => 56 | 12 => 55 | 23 => 70 | 24 => 71 | 14 => 61 | 15 => 62 | 16 => 63 | 17 => 64 | 18 => 65 | 19 => 66 | 20 => 67 | 21 => 68 | 22 => 69 | 25 => 75 | 26 => 76 | 27 => 77 | 28 => 78 | 29 => 79 | 30 => 80 | 31 => 83 | n => n, fun | 26 => 9 | 28 => 53 | 24 => 22 | 0 => 0 | 3 => 3 | 37 => 71 | 48 => 85 | 50 => 87 | 4 => 4 | 40 => 78 | 39 => 77 | 45 => 73 | 5 => 5 | 9 => 9 | 51 => 92 | 55 => 96 | 57 => 98 | 58 => 99 | 33 => 39 | n => n, fun | n => n⟩
theorem sortedLays : Go.Proofs.SlLaysZ.n6 Try.prog sortedRen := {
  mixed := by kernel_rfl
  f6 := ⟨Try.f32.name, by decide, Try.func32.trans (congrArg some (by kernel_rfl))⟩
  f8 := ⟨Try.f46.name, by decide, Try.func46.trans (congrArg some (by kernel_rfl))⟩
  f11 := ⟨Try.f54.name, by decide, Try.func54.trans (congrArg some (by kernel_rfl))⟩
  t0 := Try.underlying0
  a0 := Try.isAgg0
  z0 := Try.sizeOf0
  v0 := Try.zeroValue0
  t24 := Try.underlying22
  a24 := Try.isAgg22
  z24 := Try.sizeOf22
  v24 := Try.zeroValue22
  t26 := Try.underlying9
  a26 := Try.isAgg9
  z26 := Try.sizeOf9
  v26 := Try.zeroValue9
  t28 := Try.underlying53
  a28 := Try.isAgg53
  z28 := Try.sizeOf53
  v28 := Try.zeroValue53
  i26 := by kernel_rfl }
def sortRen : Go.Shelf.Ren := ⟨fun | 6 => 47 | 8 => 56 | 9 => 55 | 19 => 70 | 20 => 71 | 21 => 61 | 22 => 62 | 23 => 63 | 24 => 64 | 25 => 65 | 26 => 66 | 27 => 67 | 28 => 68 | 29 => 69 | 36 => 75 | 31 => 76 | 32 => 77 | 37 => 78 | 38 => 79 | 39 => 80 | 41 => 83 | n => n, fun | 27 => 22 | 29 => 9 | 3 => 3 | 32 => 71 | 26 => 22 | 0 => 0 | 44 => 85 | 46 => 87 | 4 => 4 | 36 => 78 | 35 => 77 | 41 => 73 | 5 => 5 | 9 => 9 | 53 => 92 | 57 => 96 | 63 => 98 | 64 => 99 | n => n, fun | n => n⟩
theorem sortLays : Go.Proofs.SlLaysM.n6 Try.prog sortRen := {
  mixed := by kernel_rfl
  f6 := ⟨Try.f47.name, by decide, Try.func47.trans (congrArg some (by kernel_rfl))⟩
  f8 := Try.func56.trans (congrArg some (by kernel_rfl))
  f9 := ⟨Try.f55.name, by decide, Try.func55.trans (congrArg some (by kernel_rfl))⟩
  f19 := Try.func70.trans (congrArg some (by kernel_rfl))
  f20 := Try.func71.trans (congrArg some (by kernel_rfl))
  f21 := ⟨Try.f61.name, by decide, Try.func61.trans (congrArg some (by kernel_rfl))⟩
  f22 := ⟨Try.f62.name, by decide, Try.func62.trans (congrArg some (by kernel_rfl))⟩
  f23 := ⟨Try.f63.name, by decide, Try.func63.trans (congrArg some (by kernel_rfl))⟩
  f24 := ⟨Try.f64.name, by decide, Try.func64.trans (congrArg some (by kernel_rfl))⟩
  f25 := ⟨Try.f65.name, by decide, Try.func65.trans (congrArg some (by kernel_rfl))⟩
  f26 := ⟨Try.f66.name, by decide, Try.func66.trans (congrArg some (by kernel_rfl))⟩
  f27 := ⟨Try.f67.name, by decide, Try.func67.trans (congrArg some (by kernel_rfl))⟩
  f28 := ⟨Try.f68.name, by decide, Try.func68.trans (congrArg some (by kernel_rfl))⟩
  f29 := ⟨Try.f69.name, by decide, Try.func69.trans (congrArg some (by kernel_rfl))⟩
  f31 := Try.func76.trans (congrArg some (by kernel_rfl))
  f32 := Try.func77.trans (congrArg some (by kernel_rfl))
  f36 := ⟨Try.f75.name, by decide, Try.func75.trans (congrArg some (by kernel_rfl))⟩
  f37 := ⟨Try.f78.name, by decide, Try.func78.trans (congrArg some (by kernel_rfl))⟩
  f38 := ⟨Try.f79.name, by decide, Try.func79.trans (congrArg some (by kernel_rfl))⟩
  f39 := ⟨Try.f80.name, by decide, Try.func80.trans (congrArg some (by kernel_rfl))⟩
  f41 := ⟨Try.f83.name, by decide, Try.func83.trans (congrArg some (by kernel_rfl))⟩
  t0 := Try.underlying0
  a0 := Try.isAgg0
  z0 := Try.sizeOf0
  v0 := Try.zeroValue0
  t3 := Try.underlying3
  a3 := Try.isAgg3
  z3 := Try.sizeOf3
  v3 := Try.zeroValue3
  t4 := Try.underlying4
  a4 := Try.isAgg4
  z4 := Try.sizeOf4
  v4 := Try.zeroValue4
  t5 := Try.underlying5
  a5 := Try.isAgg5
  z5 := Try.sizeOf5
  v5 := Try.zeroValue5
  t9 := Try.underlying9
  a9 := Try.isAgg9
  z9 := Try.sizeOf9
  v9 := Try.zeroValue9
  t26 := Try.underlying22
  a26 := Try.isAgg22
  z26 := Try.sizeOf22
  v26 := Try.zeroValue22
  t27 := Try.underlying22
  a27 := Try.isAgg22
  z27 := Try.sizeOf22
  v27 := Try.zeroValue22
  t29 := Try.underlying9
  a29 := Try.isAgg9
  z29 := Try.sizeOf9
  v29 := Try.zeroValue9
  t32 := Try.underlying71
  a32 := Try.isAgg71
  z32 := Try.sizeOf71
  v32 := Try.zeroValue71
  t35 := Try.underlying77
  a35 := Try.isAgg77
  z35 := Try.sizeOf77
  v35 := Try.zeroValue77
  t36 := Try.underlying78
  a36 := Try.isAgg78
  z36 := Try.sizeOf78
  v36 := Try.zeroValue78
  t41 := Try.underlying73
  a41 := Try.isAgg73
  z41 := Try.sizeOf73
  v41 := Try.zeroValue73
  t44 := Try.underlying85
  a44 := Try.isAgg85
  z44 := Try.sizeOf85
  v44 := Try.zeroValue85
  t46 := Try.underlying87
  a46 := Try.isAgg87
  z46 := Try.sizeOf87
  v46 := Try.zeroValue87
  t53 := Try.underlying92
  a53 := Try.isAgg92
  z53 := Try.sizeOf92
  v53 := Try.zeroValue92
  t57 := Try.underlying96
  a57 := Try.isAgg96
  z57 := Try.sizeOf96
  v57 := Try.zeroValue96
  t63 := Try.underlying98
  a63 := Try.isAgg98
  z63 := Try.sizeOf98
  v63 := Try.zeroValue98
  t64 := Try.underlying99
  a64 := Try.isAgg99
  z64 := Try.sizeOf99
  v64 := Try.zeroValue99 }
open Go.Shelf Go.Sort Go.Maps in
theorem sortsLays (m : Nat) : AnyZ.SortsIn Try.prog sortedRen Fence.wide m :=
  ⟨fun blk off cap ss W hH hblk hsz => callsIn_wide.2 (AnyM.slices_Sort_string sortLays blk off cap ss W hH hblk hsz),
   fun p cap W => callsIn_wide.2 (AnyM.slices_Sort_string_none sortLays p cap W)⟩
open Go.Shelf Go.Sort Go.Maps in
theorem keys_calls (mb : Option Nat) (W : World) : Calls Try.prog 33 #[.map mb] W fun e w' => e = .returned (.func (.func 48) #[] #[.pointer (some ⟨W.heap.size, 0, none⟩)]) ∧ w' = W.alloc (.cells #[.map mb] 50) :=
  (callsIn_wide (n := 5)).1 (AnyZ.keys_in keysLays Fence.wide 5 trivial rfl mb W)
/-! Go's order on texts, and the sorted list without doubles. -/
def ltB (a b : ByteArray) : Bool := Op.bytesLess a.toList b.toList
theorem ltB_iff (a b : ByteArray) : ltB a b = true ↔ a.toList < b.toList := by unfold ltB; rw [bytesLess_eq, decide_eq_true_eq]
theorem ltB_irrefl (a : ByteArray) : ltB a a = false := by rw [Bool.eq_false_iff]; intro h; exact List.lt_irrefl _ ((ltB_iff a a).1 h)
theorem ltB_trans {a b c : ByteArray} (h1 : ltB a b = true) (h2 : ltB b c = true) : ltB a c = true := (ltB_iff a c).2 (List.lt_trans ((ltB_iff a b).1 h1) ((ltB_iff b c).1 h2))
theorem ltB_total {a b : ByteArray} (h : ltB a b = false) (hne : a ≠ b) : ltB b a = true := by
  rw [ltB_iff]
  have h1 : ¬ a.toList < b.toList := fun h' => by rw [(ltB_iff a b).2 h'] at h; cases h
  have h2 : b.toList ≤ a.toList := List.not_lt.1 h1
  rcases Classical.em (b.toList < a.toList) with h3 | h3
  · exact h3
  · exact absurd ((bs_eq a b).1 (List.le_antisymm (List.not_lt.1 h3) h2)) hne
def insB (x : ByteArray) : List ByteArray → List ByteArray
  | [] => [x]
  | y :: r => if ltB y x = true then y :: insB x r else if y = x then y :: r else x :: y :: r
theorem insB_mem (x z : ByteArray) : ∀ l, z ∈ insB x l ↔ z = x ∨ z ∈ l := by
  intro l
  induction l with
  | nil => unfold insB; simp
  | cons y r ih =>
    unfold insB
    by_cases h1 : ltB y x = true
    · rw [if_pos h1, List.mem_cons, ih, List.mem_cons]
      constructor
      · rintro (h | h | h)
        · exact .inr (.inl h)
        · exact .inl h
        · exact .inr (.inr h)
      · rintro (h | h | h)
        · exact .inr (.inl h)
        · exact .inl h
        · exact .inr (.inr h)
    · rw [if_neg h1]
      by_cases h2 : y = x
      · rw [if_pos h2, List.mem_cons]
        constructor
        · rintro h; exact .inr h
        · rintro (h | h)
          · exact .inl (h.trans h2.symm)
          · exact h
      · rw [if_neg h2, List.mem_cons]
def SortedB (l : List ByteArray) : Prop := l.Pairwise (fun a b => ltB a b = true)
theorem insB_sorted (x : ByteArray) : ∀ l, SortedB l → SortedB (insB x l) := by
  intro l
  induction l with
  | nil => intro _; unfold insB SortedB; simp
  | cons y r ih =>
    intro h
    unfold SortedB at h
    rw [List.pairwise_cons] at h
    unfold insB
    by_cases h1 : ltB y x = true
    · rw [if_pos h1]; unfold SortedB; rw [List.pairwise_cons]
      refine ⟨fun z hz => ?_, ih h.2⟩
      rcases (insB_mem x z r).1 hz with rfl | hz
      · exact h1
      · exact h.1 z hz
    · rw [if_neg h1]
      by_cases h2 : y = x
      · rw [if_pos h2]; unfold SortedB; rw [List.pairwise_cons]; exact h
      · rw [if_neg h2]; unfold SortedB; rw [List.pairwise_cons, List.pairwise_cons]
        have h3 : ltB x y = true := ltB_total (Bool.eq_false_iff.mpr h1) h2
        refine ⟨fun z hz => ?_, h⟩
        rcases List.mem_cons.1 hz with rfl | hz
        · exact h3
        · exact ltB_trans h3 (h.1 z hz)
theorem SortedB.nodup {l : List ByteArray} (h : SortedB l) : l.Nodup := by
  refine List.Pairwise.imp ?_ h
  intro a b hab e
  subst e
  rw [ltB_irrefl] at hab; cases hab
/-- a sorted list is told by what it holds -/
theorem SortedB.unique {l m : List ByteArray} (hl : SortedB l) (hm : SortedB m) (h : ∀ x, x ∈ l ↔ x ∈ m) : l = m := by
  refine List.Perm.eq_of_pairwise (le := fun a b => ltB a b = true) (fun a b _ _ h1 h2 => ?_) hl hm ((List.perm_ext_iff_of_nodup hl.nodup hm.nodup).2 h)
  have := ltB_trans h1 h2
  rw [ltB_irrefl] at this; cases this
def ofB (ls : List ByteArray) : List ByteArray := ls.foldl (fun acc s => if s = noneS then acc else insB s acc) []
theorem ofB_fold : ∀ (ls acc : List ByteArray), SortedB acc → SortedB (ls.foldl (fun acc s => if s = noneS then acc else insB s acc) acc) ∧ ∀ z, z ∈ ls.foldl (fun acc s => if s = noneS then acc else insB s acc) acc ↔ (z ∈ ls ∧ z ≠ noneS) ∨ z ∈ acc := by
  intro ls
  induction ls with
  | nil => intro acc h; exact ⟨h, fun z => by simp⟩
  | cons s r ih =>
    intro acc h
    rw [List.foldl_cons]
    by_cases hs : s = noneS
    · rw [if_pos hs]
      obtain ⟨h1, h2⟩ := ih acc h
      refine ⟨h1, fun z => ?_⟩
      rw [h2, List.mem_cons]
      constructor
      · rintro (⟨a, b⟩ | a)
        · exact .inl ⟨.inr a, b⟩
        · exact .inr a
      · rintro (⟨a | a, b⟩ | a)
        · exact absurd (a.trans hs) b
        · exact .inl ⟨a, b⟩
        · exact .inr a
    · rw [if_neg hs]
      obtain ⟨h1, h2⟩ := ih (insB s acc) (insB_sorted s acc h)
      refine ⟨h1, fun z => ?_⟩
      rw [h2, List.mem_cons, insB_mem]
      constructor
      · rintro (⟨a, b⟩ | a | a)
        · exact .inl ⟨.inr a, b⟩
        · exact .inl ⟨.inl a, by rw [a]; exact hs⟩
        · exact .inr a
      · rintro (⟨a | a, b⟩ | a)
        · exact .inr (.inl a)
        · exact .inl ⟨a, b⟩
        · exact .inr (.inr a)
theorem ofB_sorted (ls : List ByteArray) : SortedB (ofB ls) := (ofB_fold ls [] List.Pairwise.nil).1
theorem ofB_mem (ls : List ByteArray) (z : ByteArray) : z ∈ ofB ls ↔ z ∈ ls ∧ z ≠ noneS := by
  have := (ofB_fold ls [] List.Pairwise.nil).2 z
  simp only [List.not_mem_nil, or_false] at this; exact this
theorem insB_length (x : ByteArray) : ∀ l, (insB x l).length ≤ l.length + 1 := by
  intro l
  induction l with
  | nil => exact Nat.le_refl _
  | cons y r ih =>
    unfold insB
    split
    · rw [List.length_cons, List.length_cons]; omega
    · split
      · omega
      · rw [List.length_cons]; omega
theorem fold_length : ∀ (ls acc : List ByteArray), (ls.foldl (fun acc s => if s = noneS then acc else insB s acc) acc).length ≤ ls.length + acc.length := by
  intro ls
  induction ls with
  | nil => intro acc; show acc.length ≤ _; omega
  | cons s r ih =>
    intro acc
    rw [List.foldl_cons, List.length_cons]
    have h := ih (if s = noneS then acc else insB s acc)
    have h2 : (if s = noneS then acc else insB s acc).length ≤ acc.length + 1 := by
      split
      · omega
      · exact insB_length s acc
    omega
theorem ofB_length (ls : List ByteArray) : (ofB ls).length ≤ ls.length := fold_length ls []
theorem mk_toList (b : ByteArray) : (⟨b.toList.toArray⟩ : ByteArray) = b := by rw [ByteArray.toList_eq]
open Go.Shelf Go.Sort Go.Maps in
set_option maxHeartbeats 1000000 in
/-- slices.Sorted of a map's keys: the sorted list of what the map holds. -/
theorem sortedKeys_calls (b n : Nat) (f : ByteArray → Option Value) (l : List ByteArray) (w : World) (hM : MapIs encS w Try.prog 9 b n f) (hn : n ≤ 1000000) (hl : SortedB l) (hf : ∀ x, (f x).isSome = true ↔ x ∈ l) :
    Calls Try.prog 32 #[.func (.func 48) #[] #[.pointer (some ⟨w.heap.size, 0, none⟩)]] (w.alloc (.cells #[.map (some b)] 50)) fun e w' => ∃ v, e = .returned v ∧ Kd.R Kd.string 9 w' (w.alloc (.cells #[.map (some b)] 50)).heap.size (fun _ => True) v l ∧ Below (w.alloc (.cells #[.map (some b)] 50)).heap.size (w.alloc (.cells #[.map (some b)] 50)) w' := by
  obtain ⟨D0, hown, hh, _⟩ := hM
  have hbl := hown.lt
  have hsz : Maps.size D0 ≤ 1000000 := Nat.le_trans hown.size_le hn
  have hseq : SeqGives Fence.wide 2 Try.prog 48 #[.pointer (some ⟨w.heap.size, 0, none⟩)] encStr (fun ss => ss.Perm (strKeys D0)) (Maps.size D0) (w.alloc (.cells #[.map (some b)] 50)) :=
    AnyZ.keys_gives (ρ := keysRen) { keysLays with } Fence.wide _ trivial rfl (by omega) w.heap.size b n D0 _ (by simp) (by simp) (by
      obtain ⟨es, clock, hb, Ft, hs, hD⟩ := hown
      exact ⟨es, clock, (Below.heap_alloc _ _ b hbl).trans hb, Ft, hs, hD⟩)
  have hc := (callsIn_wide (n := 5)).1 (AnyZ.sorted_in sortedLays Fence.wide 5 trivial trivial trivial trivial rfl (by omega) (sortsLays _) (enters_of Try.func47 (by kernel_rfl) rfl) 48 #[.pointer (some ⟨w.heap.size, 0, none⟩)] trivial (enters_of Try.func48 (by kernel_rfl) rfl) _ _ (by unfold maxLen; omega) (by omega) _ hseq)
  have hkeys : (l.map fun x => x.toList).Perm (strKeys D0) := by
    obtain ⟨es, hD, hpw, _⟩ := hown.entries law_str
    obtain ⟨es', hD', hko⟩ := hown.keysOf
    obtain rfl : es = es' := by rw [hD] at hD'; simpa using hD'
    subst hD
    refine perm_strKeys hpw (fun p hp => by obtain ⟨v, hv⟩ := hko p hp; obtain ⟨x, _, hx, _⟩ := Maps.keyOf_str Try.underlying9 hv; exact ⟨x, hx⟩) ?_ fun x => ?_
    · refine List.pairwise_map.2 (hl.nodup.imp ?_)
      intro a b hne e
      exact hne ((bs_eq a b).1 e)
    · have h1 := hh ⟨x.toArray⟩
      have h2 : encS ⟨x.toArray⟩ = .string x := by unfold encS; simp
      rw [h2] at h1
      rw [h1, hf]
      rw [List.mem_map]
      constructor
      · rintro ⟨y, hy, rfl⟩; rw [mk_toList]; exact hy
      · intro hy; exact ⟨_, hy, by rw [ByteArray.toList_eq]⟩
  refine hc.mono ?_
  rintro e w' ⟨v, ss, rfl, hperm, hrow, _, hbel⟩
  have hms : ss.mergeSort leB = l.map fun x => x.toList := by
    rw [mergeSort_of_perm (hperm.trans hkeys.symm)]
    refine List.Perm.eq_of_pairwise (le := fun a b => leB a b = true) (fun a b _ _ h1 h2 => ?_) (List.pairwise_mergeSort (fun a b c h1 h2 => ?_) (fun a b => ?_) _) ?_ (List.mergeSort_perm _ _)
    · simp only [leB, decide_eq_true_eq] at h1 h2
      exact List.le_antisymm h1 h2
    · simp only [leB, decide_eq_true_eq] at *; exact List.le_trans h1 h2
    · simp only [leB, Bool.or_eq_true, decide_eq_true_eq]; exact List.le_total a b
    · refine List.pairwise_map.2 (hl.imp ?_)
      intro a b hab
      simp only [leB, decide_eq_true_eq]
      exact List.le_of_lt ((ltB_iff a b).1 hab)
  have hrow2 : (ss.mergeSort (fun x y => decide (x ≤ y))).map encStr = l.map Value.string := by
    show (ss.mergeSort leB).map encStr = _
    rw [hms, List.map_map]
    refine List.map_congr_left fun x _ => ?_
    show Value.string ⟨x.toList.toArray⟩ = _
    rw [mk_toList]
  have hlen : ss.length = l.length := by rw [(hperm.trans hkeys.symm).length_eq, List.length_map]
  rw [hrow2, hlen] at hrow
  exact ⟨v, rfl, Kd.R_of_own hrow (fun _ _ => trivial), hbel⟩

/-! ### scripts_Of: function 15 -/
def scripts_Of.f (l0_0 : List ByteArray) (l0_1 : List Sp) (l1 : List Int) : Option (List ByteArray) := if scrPre l0_0 l1 = true then some (ofB (reals l0_0 l0_1 l1)) else none
set_option maxHeartbeats 1600000 in
set_option maxRecDepth 100000 in
theorem scripts_Of.calls (A0_0 : Option Addr) (c0_0 : Nat) (l0_0 : List ByteArray) (A0_1 : Option Addr) (c0_1 : Nat) (l0_1 : List Sp) (A1 : Option Addr) (c1 : Nat) (l1 : List Int) (r : List ByteArray) (w : World) (hr0_0 : Kd.C Kd.string w A0_0 l0_0.length l0_0) (hc0_0 : l0_0.length ≤ c0_0) (hr0_1 : Kd.C k45 w A0_1 l0_1.length l0_1) (hc0_1 : l0_1.length ≤ c0_1) (hr1 : Kd.C (Kd.int .i64) w A1 l1.length l1) (hc1 : l1.length ≤ c1) (h : scripts_Of.f l0_0 l0_1 l1 = some r) :
    Calls Try.prog 15 #[.agg #[.slice A0_0 l0_0.length c0_0, .slice A0_1 l0_1.length c0_1], .slice A1 l1.length c1] w fun e w' => ∃ v0_ : Value, e = .returned (v0_) ∧ Kd.R Kd.string 9 w' w.heap.size (fun _ => True) v0_ r ∧ Below w.heap.size w w' := by
  unfold scripts_Of.f at h
  by_cases hz : scrPre l0_0 l1 = true
  case neg => rw [if_neg hz] at h; cases h
  rw [if_pos hz] at h
  obtain rfl := Option.some.inj h
  have hreal : scripts_real.f l0_0 l0_1 l1 = some (reals l0_0 l0_1 l1) := by unfold scripts_real.f; rw [if_pos hz]
  have hlen : (reals l0_0 l0_1 l1).length ≤ 1000000 := by
    unfold scrPre at hz; simp only [Bool.and_eq_true, decide_eq_true_eq] at hz; unfold reals; rw [List.length_map]; exact hz.2
  have hsz : sizesB (reals l0_0 l0_1 l1) = true := by
    unfold scrPre at hz; simp only [Bool.and_eq_true, decide_eq_true_eq] at hz
    unfold sizesB reals
    rw [List.all_eq_true]
    intro s hs
    obtain ⟨c, _, rfl⟩ := List.mem_map.1 hs
    rw [decide_eq_true_eq]
    unfold realOf realS
    split
    · decide
    · exact nameOf_size hz.1.1 l0_1 c
  generalize reals l0_0 l0_1 l1 = ls at hreal hlen hsz ⊢
  have HR := Aside0.mk hreal
  have HZ := Aside0.mk hsz
  have R0 := Aside0.mk hr0_0
  have R1 := Aside0.mk hr0_1
  have R2 := Aside0.mk hr1
  clear h hr0_0 hr0_1 hr1 hz hreal hsz
  have hmm := @run_makeMap Try.prog
  go_enter Try.func15, Try.ntmps15
  go_wp2_with fail
  refine (scripts_real.calls _ _ _ _ _ _ _ _ _ _ _ (Kd.C_below R0.out ?_) hc0_0 (Kd.C_below R1.out ?_) hc0_1 (Kd.C_below R2.out ?_) hc1 HR.out).mono ?_
  · exact below_alloc ((Below.refl _ _).alloc (Nat.le_refl _) _) _
  · exact below_alloc ((Below.refl _ _).alloc (Nat.le_refl _) _) _
  · exact below_alloc ((Below.refl _ _).alloc (Nat.le_refl _) _) _
  rintro e w1 ⟨v, rfl, hR, hb⟩
  obtain ⟨W, hW⟩ : ∃ W, W = (w.alloc (.cells #[.slice A0_0 l0_0.length c0_0, .slice A0_1 l0_1.length c0_1] 25)) := ⟨_, rfl⟩
  have BW : Below w.heap.size w W := by rw [hW]; exact (Below.refl _ _).alloc (Nat.le_refl _) _
  have hWs : W.heap.size = w.heap.size + 1 := by rw [hW]; simp
  rw [← hW] at hR hb
  have HM := Aside0.mk ((MapIs.made (enc := encS) W Try.prog 9).below hb)
  have HB := Aside0.mk ((below_alloc BW _).trans (hb.mono (Nat.le_trans BW.size (by simp))))
  obtain ⟨Av, cv, ev⟩ := Kd.R_slice hR
  subst ev
  have HC := Aside0.mk (Kd.R_lower hR (show w.heap.size ≤ _ from Nat.le_trans BW.size (by simp)))
  have hcap : ls.length ≤ cv := (Kd.R_reads' hR).2.1
  have HBW := Aside0.mk BW
  rw [← hWs]
  clear hW hR hb HR R0 R1 R2 BW hWs
  go_wp2
  go_loopw [13] (fun i wr => ∃ (k : Nat) (f : ByteArray → Option Value), k ≤ ls.length ∧ i = .int .i64 k ∧ Aside0 (MapIs encS wr Try.prog 9 W.heap.size k f) ∧ Aside0 (∀ x, (f x).isSome = true ↔ x ∈ ls.take k ∧ x ≠ noneS) ∧ Aside0 (Kd.R Kd.string 9 wr w.heap.size (fun _ => True) (.slice Av ls.length cv) ls) ∧ Aside0 (Below w.heap.size w wr)) (fun i _ => ls.length - (intOf i).toNat)
  case atStart => exact ⟨0, fun _ => none, Nat.zero_le _, rfl, ⟨HM.out⟩, ⟨fun x => by simp⟩, HC, HB⟩
  case round =>
    obtain ⟨k, f, hk, rfl, hM, hF, hC, hB⟩ := hrel
    by_cases hlt : k < ls.length
    · obtain ⟨ad, e, x0⟩ := Kd.at_string (Kd.R_reads' hC.out).2.2 (k : Int) (by omega) (by omega)
      subst e
      obtain ⟨x, hx⟩ : ∃ x, x = rdOf ByteArray.empty ls (k : Int) := ⟨_, rfl⟩
      have hkey := Aside0.mk (key_str x (by rw [hx]; exact sizes_at HZ.out k))
      rw [← hx] at x0
      have htake : Aside0 (ls.take (k + 1) = ls.take k ++ [x]) := ⟨by rw [hx, List.take_succ_eq_append_getElem hlt]; show _ = _ ++ [ls.getD k _]; rw [List.getD_eq_getElem?_getD, List.getElem?_eq_getElem hlt]; rfl⟩
      clear hx
      rw [show ((k : Int)).toNat = k from rfl] at x0
      by_cases hn : x = noneS
      · have t1 : (x.toList == ([] : List UInt8)) = true := by rw [hn, noneS_l]; decide
        have t2 : x.toList = [] := by rw [hn, noneS_l]
        have t3 : (x.toList.isEmpty) = true := by rw [t2]; rfl
        have HN := Aside0.mk hn
        clear hn
        go_wp2
        refine ⟨⟨k + 1, f, by omega, by go_num, ⟨hM.out.mono (Nat.le_succ _)⟩, ⟨fun y => ?_⟩, hC, hB⟩, by simp [intOf]; omega⟩
        rw [hF.out, htake.out, List.mem_append, List.mem_singleton]
        constructor
        · rintro ⟨a, b⟩; exact ⟨.inl a, b⟩
        · rintro ⟨a | a, b⟩
          · exact ⟨a, b⟩
          · exact absurd (a.trans HN.out) b
      · have t1 : (x.toList == ([] : List UInt8)) = false := by rw [beq_eq_false_iff_ne]; exact fun h => hn ((noneS_iff x).1 h)
        have t2 : ¬ x.toList = [] := fun h => hn ((noneS_iff x).1 h)
        have t3 : (x.toList.isEmpty) = false := by rw [List.isEmpty_eq_false_iff]; exact t2
        have HN := Aside0.mk hn
        clear hn
        go_wp2_with (at_mapUpdate; refine wpList_mapis_upd _ rfl _ _ _ 50 rfl 9 4 law_str Try.underlying50 W.heap.size k f rfl hM.out encS_inj (by unfold maxLen; omega) _ _ x rfl rfl hkey.out (encS_key x) ?_; intro w2 hM2 hg2)
        go_roundw
        case rel =>
          refine ⟨k + 1, _, by omega, by go_num, ⟨hM2⟩, ⟨fun y => ?_⟩, ⟨?_⟩, ⟨hB.out.grown hg2 hB.out.size (fun j hj => by cases hj; exact HBW.out.size)⟩⟩
          · by_cases hy : y = x
            · subst hy; rw [if_pos rfl, htake.out]
              exact ⟨fun _ => ⟨List.mem_append.2 (.inr (List.mem_singleton.2 rfl)), HN.out⟩, fun _ => rfl⟩
            · rw [if_neg hy, hF.out, htake.out, List.mem_append, List.mem_singleton]
              constructor
              · rintro ⟨a, b⟩; exact ⟨.inl a, b⟩
              · rintro ⟨a | a, b⟩
                · exact ⟨a, b⟩
                · exact absurd a hy
          · exact Kd.R_off_map hC.out hM.out hg2
        case measure => simp [intOf]; omega
    · obtain rfl : k = ls.length := by omega
      rw [List.take_length] at hF
      have HK := Aside0.mk (sortedKeys_calls W.heap.size ls.length f (ofB ls) wr hM.out hlen (ofB_sorted ls) (fun x => by rw [hF.out, ofB_mem]))
      go_wp2_with (first | (go_at_call 33; refine (keys_calls _ _).mono ?_; rintro e w2 ⟨rfl, rfl⟩) | (go_at_call 32; refine HK.out.mono ?_; rintro e w3 ⟨vr, rfl, hRr, hbr⟩))
      go_ret
      refine ⟨vr, rfl, Kd.R_lower hRr ?_, (below_alloc hB.out _).trans (hbr.mono ?_)⟩
      · exact Nat.le_trans hB.out.size (by simp)
      · exact Nat.le_trans hB.out.size (by simp)

/-! ### unicodetextref09_Strings: function 16 -/
def unicodetextref09_Strings.l0 : Nat → List ByteArray → List ByteArray → Int → Option (Bool)
  | 0, _, _, _ => none
  | k + 1, x0, x1, x5 => if x5 < (x0.length : Int) then (if 0 ≤ x5 then (if x5 < (x1.length : Int) then (if (rdOf ByteArray.empty x0 x5).toList = (rdOf ByteArray.empty x1 x5).toList then (unicodetextref09_Strings.l0 k x0 x1 (wrap64 (x5 + 1))) else (some false)) else (none)) else (none)) else (some true)
def unicodetextref09_Strings.f (k : Nat) (l0 : List ByteArray) (l1 : List ByteArray) : Option (Bool) := if (l0.length : Int) = (l1.length : Int) then (unicodetextref09_Strings.l0 k l0 l1 0) else (some false)
theorem unicodetextref09_Strings.mono_l : ∀ k, (∀ y0 y1 y2, LeO (unicodetextref09_Strings.l0 k y0 y1 y2) (unicodetextref09_Strings.l0 (k + 1) y0 y1 y2))
  | 0 => fun _ _ _ r h => by simp [unicodetextref09_Strings.l0] at h
  | k + 1 => by
    have ih0 := unicodetextref09_Strings.mono_l k
    · intro y0 y1 y2
      unfold unicodetextref09_Strings.l0
      repeat' first
      | (with_reducible exact ih0 _ _ _)
      | (with_reducible exact LeO.refl _)
      | (with_reducible exact LeO.none _)
      | (with_reducible refine LeO.ite ?_ ?_)
      | (with_reducible refine LeO.bind ?_ (fun _ => ?_))
      | exact ih0 _ _ _
      | exact LeO.none _
      | refine LeO.ite ?_ ?_
      | refine LeO.bind ?_ (fun _ => ?_)
theorem unicodetextref09_Strings.mono : ∀ a0 a1 k, LeO (unicodetextref09_Strings.f k a0 a1) (unicodetextref09_Strings.f (k + 1) a0 a1) := by
  intro a0 a1 k
  have ih0 := unicodetextref09_Strings.mono_l k
  unfold unicodetextref09_Strings.f
  repeat' first
      | (with_reducible exact ih0 _ _ _)
      | (with_reducible exact LeO.refl _)
      | (with_reducible exact LeO.none _)
      | (with_reducible refine LeO.ite ?_ ?_)
      | (with_reducible refine LeO.bind ?_ (fun _ => ?_))
      | exact ih0 _ _ _
      | exact LeO.none _
      | refine LeO.ite ?_ ?_
      | refine LeO.bind ?_ (fun _ => ?_)
set_option maxHeartbeats 8000000 in
set_option maxRecDepth 100000 in
theorem unicodetextref09_Strings.calls (k : Nat) (A0 : Option Addr) (c0 : Nat) (l0 : List ByteArray) (A1 : Option Addr) (c1 : Nat) (l1 : List ByteArray) (r : Bool) (w : World) (hr0 : Kd.C Kd.string w A0 l0.length l0) (hc0 : l0.length ≤ c0) (hr1 : Kd.C Kd.string w A1 l1.length l1) (hc1 : l1.length ≤ c1) (h : unicodetextref09_Strings.f k l0 l1 = some r) :
    Calls Try.prog 16 #[.slice A0 l0.length c0, .slice A1 l1.length c1] w fun e w' => e = .returned (.bool r) ∧ Drawn0 w w' := by
  have HR0 := Aside0.mk hr0
  have HC0 := Aside0.mk hc0
  clear hr0 hc0
  have HR1 := Aside0.mk hr1
  have HC1 := Aside0.mk hc1
  clear hr1 hc1
  have H : (if (l0.length : Int) = (l1.length : Int) then (unicodetextref09_Strings.l0 k l0 l1 0) else (some false)) = some r := h
  clear h
  by_cases c3 : (l0.length : Int) = (l1.length : Int)
  · rw [if_pos c3] at H
    have c3b0 : ((l0.length : Int) == (l1.length : Int)) = true := beq_iff_eq.mpr c3
    have c3b1 : ((l0.length : Int) != (l1.length : Int)) = false := bne_eq_false_iff_eq.mpr c3
    have c3b2 : (l0.length == l1.length) = true := by first | simpa using c3 | (simp at c3 ⊢; omega)
    clear c3
    have H' := Aside0.mk H
    clear H
    go_enter Try.func16, Try.ntmps16
    go_wp2
    repeat (go_quiet (fail); try go_wp2)
    go_loopg [5] k (fun kq v5 w' => ∃ (x5_1 : Int), v5 = .int .i64 x5_1 ∧ Aside0 (unicodetextref09_Strings.l0 kq l0 l1 x5_1 = some r) ∧ Aside0 (kq ≤ k) ∧ Drawn0 w w')
    case atStart => exact ⟨(0), (by first | rfl | (simp; done) | (simp [*]; done)), H', ⟨Nat.le_refl _⟩, by repeat (first | exact Drawn0.refl _ | apply Drawn0.step)⟩
    case round =>
      clear H'
      try clear c1
      try clear p2
      try clear c3
      try clear c3b0
      try clear c3b1
      try clear c3b2
      obtain ⟨x5_1, rfl, HA, HK1, ⟨m1, rfl⟩⟩ := hrel
      cases gk with
      | zero => exact absurd HA.out (by simp [unicodetextref09_Strings.l0])
      | succ k1 =>
        have H := HA.out
        clear HA
        simp only [unicodetextref09_Strings.l0] at H
        by_cases c4 : x5_1 < (l0.length : Int)
        · rw [if_pos c4] at H
          have c4b0 : decide (x5_1 < (l0.length : Int)) = true := decide_eq_true c4
          clear c4
          by_cases c5 : 0 ≤ x5_1
          · rw [if_pos c5] at H
            have c5b0 : decide (0 ≤ x5_1) = true := decide_eq_true c5
            clear c5
            by_cases c6 : x5_1 < (l1.length : Int)
            · rw [if_pos c6] at H
              have c6b0 : decide (x5_1 < (l1.length : Int)) = true := decide_eq_true c6
              clear c6
              by_cases c7 : (rdOf ByteArray.empty l0 x5_1).toList = (rdOf ByteArray.empty l1 x5_1).toList
              · rw [if_pos c7] at H
                have c7b0 : ((rdOf ByteArray.empty l0 x5_1).toList == (rdOf ByteArray.empty l1 x5_1).toList) = true := beq_iff_eq.mpr c7
                have c7b1 : ((rdOf ByteArray.empty l0 x5_1).toList != (rdOf ByteArray.empty l1 x5_1).toList) = false := bne_eq_false_iff_eq.mpr c7
                clear c7
                have H' := Aside0.mk H
                clear H
                have p233 : 0 ≤ (x5_1 : Int) := of_decide_eq_true (by first | (with_reducible assumption) | assumption)
                have q233 : x5_1 < (l0.length : Int) := of_decide_eq_true (by first | (with_reducible assumption) | assumption)
                obtain ⟨ad233, e233, hx233_0⟩ := Kd.at_string HR0.out x5_1 p233 q233
                cases e233
                replace p233 := eq_true p233
                replace q233 := eq_true q233
                have p234 : 0 ≤ (x5_1 : Int) := of_decide_eq_true (by first | (with_reducible assumption) | assumption)
                have q234 : x5_1 < (l1.length : Int) := of_decide_eq_true (by first | (with_reducible assumption) | assumption)
                obtain ⟨ad234, e234, hx234_0⟩ := Kd.at_string HR1.out x5_1 p234 q234
                cases e234
                replace p234 := eq_true p234
                replace q234 := eq_true q234
                go_wp2
                repeat (go_quiet (fail); try go_wp2)
                go_roundg k1
                case measure => have := HK1.out; omega
                case rel => exact ⟨(wrap64 (x5_1 + 1)), (by first | rfl | (simp; done) | (simp [*]; done)), H', ⟨by have := HK1.out; omega⟩, by repeat (first | exact Drawn0.refl _ | apply Drawn0.step)⟩
              · rw [if_neg c7] at H
                have c7b0 : ((rdOf ByteArray.empty l0 x5_1).toList == (rdOf ByteArray.empty l1 x5_1).toList) = false := beq_eq_false_iff_ne.mpr c7
                have c7b1 : ((rdOf ByteArray.empty l0 x5_1).toList != (rdOf ByteArray.empty l1 x5_1).toList) = true := bne_iff_ne.mpr c7
                obtain rfl := Option.some.inj H
                have p233 : 0 ≤ (x5_1 : Int) := of_decide_eq_true (by first | (with_reducible assumption) | assumption)
                have q233 : x5_1 < (l0.length : Int) := of_decide_eq_true (by first | (with_reducible assumption) | assumption)
                obtain ⟨ad233, e233, hx233_0⟩ := Kd.at_string HR0.out x5_1 p233 q233
                cases e233
                replace p233 := eq_true p233
                replace q233 := eq_true q233
                have p234 : 0 ≤ (x5_1 : Int) := of_decide_eq_true (by first | (with_reducible assumption) | assumption)
                have q234 : x5_1 < (l1.length : Int) := of_decide_eq_true (by first | (with_reducible assumption) | assumption)
                obtain ⟨ad234, e234, hx234_0⟩ := Kd.at_string HR1.out x5_1 p234 q234
                cases e234
                replace p234 := eq_true p234
                replace q234 := eq_true q234
                go_wp2
                repeat (go_quiet (fail); try go_wp2)
                go_ret
                exact ⟨by first | rfl | (simp; done) | (simp [*]; done), by repeat (first | exact Drawn0.refl _ | apply Drawn0.step)⟩
            · rw [if_neg c6] at H
              exact absurd H (by simp)
          · rw [if_neg c5] at H
            exact absurd H (by simp)
        · rw [if_neg c4] at H
          have c4b0 : decide (x5_1 < (l0.length : Int)) = false := decide_eq_false c4
          clear c4
          obtain rfl := Option.some.inj H
          go_wp2
          repeat (go_quiet (fail); try go_wp2)
          go_ret
          exact ⟨by first | rfl | (simp; done) | (simp [*]; done), by repeat (first | exact Drawn0.refl _ | apply Drawn0.step)⟩
  · rw [if_neg c3] at H
    have c3b0 : ((l0.length : Int) == (l1.length : Int)) = false := beq_eq_false_iff_ne.mpr c3
    have c3b1 : ((l0.length : Int) != (l1.length : Int)) = true := bne_iff_ne.mpr c3
    have c3b2 : (l0.length == l1.length) = false := by first | simpa using c3 | (simp at c3 ⊢; omega)
    obtain rfl := Option.some.inj H
    go_enter Try.func16, Try.ntmps16
    go_wp2
    repeat (go_quiet (fail); try go_wp2)
    go_ret
    exact ⟨by first | rfl | (simp; done) | (simp [*]; done), by repeat (first | exact Drawn0.refl _ | apply Drawn0.step)⟩

/-! ### unicodetextref40_Has: function 26 -/
def unicodetextref40_Has.l0 : Nat → List ByteArray → ByteArray → Int → Option (Bool)
  | 0, _, _, _ => none
  | k + 1, x0, x1, x5 => if x5 < (x0.length : Int) then (if 0 ≤ x5 then (if (rdOf ByteArray.empty x0 x5).toList = x1.toList then (some true) else (unicodetextref40_Has.l0 k x0 x1 (wrap64 (x5 + 1)))) else (none)) else (some false)
def unicodetextref40_Has.f (k : Nat) (l0 : List ByteArray) (a1 : ByteArray) : Option (Bool) := unicodetextref40_Has.l0 k l0 a1 0
theorem unicodetextref40_Has.mono_l : ∀ k, (∀ y0 y1 y2, LeO (unicodetextref40_Has.l0 k y0 y1 y2) (unicodetextref40_Has.l0 (k + 1) y0 y1 y2))
  | 0 => fun _ _ _ r h => by simp [unicodetextref40_Has.l0] at h
  | k + 1 => by
    have ih0 := unicodetextref40_Has.mono_l k
    · intro y0 y1 y2
      unfold unicodetextref40_Has.l0
      repeat' first
      | (with_reducible exact ih0 _ _ _)
      | (with_reducible exact LeO.refl _)
      | (with_reducible exact LeO.none _)
      | (with_reducible refine LeO.ite ?_ ?_)
      | (with_reducible refine LeO.bind ?_ (fun _ => ?_))
      | exact ih0 _ _ _
      | exact LeO.none _
      | refine LeO.ite ?_ ?_
      | refine LeO.bind ?_ (fun _ => ?_)
theorem unicodetextref40_Has.mono : ∀ a0 a1 k, LeO (unicodetextref40_Has.f k a0 a1) (unicodetextref40_Has.f (k + 1) a0 a1) := by
  intro a0 a1 k
  have ih0 := unicodetextref40_Has.mono_l k
  unfold unicodetextref40_Has.f
  repeat' first
      | (with_reducible exact ih0 _ _ _)
      | (with_reducible exact LeO.refl _)
      | (with_reducible exact LeO.none _)
      | (with_reducible refine LeO.ite ?_ ?_)
      | (with_reducible refine LeO.bind ?_ (fun _ => ?_))
      | exact ih0 _ _ _
      | exact LeO.none _
      | refine LeO.ite ?_ ?_
      | refine LeO.bind ?_ (fun _ => ?_)
set_option maxHeartbeats 8000000 in
set_option maxRecDepth 100000 in
theorem unicodetextref40_Has.calls (k : Nat) (A0 : Option Addr) (c0 : Nat) (l0 : List ByteArray) (a1 : ByteArray) (r : Bool) (w : World) (hr0 : Kd.C Kd.string w A0 l0.length l0) (hc0 : l0.length ≤ c0) (h : unicodetextref40_Has.f k l0 a1 = some r) :
    Calls Try.prog 26 #[.slice A0 l0.length c0, .string a1] w fun e w' => e = .returned (.bool r) ∧ Drawn0 w w' := by
  have HR0 := Aside0.mk hr0
  have HC0 := Aside0.mk hc0
  clear hr0 hc0
  have H : (unicodetextref40_Has.l0 k l0 a1 0) = some r := h
  clear h
  have H' := Aside0.mk H
  clear H
  go_enter Try.func26, Try.ntmps26
  go_wp2
  go_loopg [5] k (fun kq v5 w' => ∃ (x5_1 : Int), v5 = .int .i64 x5_1 ∧ Aside0 (unicodetextref40_Has.l0 kq l0 a1 x5_1 = some r) ∧ Aside0 (kq ≤ k) ∧ Drawn0 w w')
  case atStart => exact ⟨(0), (by first | rfl | (simp; done) | (simp [*]; done)), H', ⟨Nat.le_refl _⟩, by repeat (first | exact Drawn0.refl _ | apply Drawn0.step)⟩
  case round =>
    clear H'
    try clear c2
    try clear p2
    obtain ⟨x5_1, rfl, HA, HK1, ⟨m1, rfl⟩⟩ := hrel
    cases gk with
    | zero => exact absurd HA.out (by simp [unicodetextref40_Has.l0])
    | succ k1 =>
      have H := HA.out
      clear HA
      simp only [unicodetextref40_Has.l0] at H
      by_cases c3 : x5_1 < (l0.length : Int)
      · rw [if_pos c3] at H
        have c3b0 : decide (x5_1 < (l0.length : Int)) = true := decide_eq_true c3
        clear c3
        by_cases c4 : 0 ≤ x5_1
        · rw [if_pos c4] at H
          have c4b0 : decide (0 ≤ x5_1) = true := decide_eq_true c4
          clear c4
          by_cases c5 : (rdOf ByteArray.empty l0 x5_1).toList = a1.toList
          · rw [if_pos c5] at H
            have c5b0 : ((rdOf ByteArray.empty l0 x5_1).toList == a1.toList) = true := beq_iff_eq.mpr c5
            have c5b1 : ((rdOf ByteArray.empty l0 x5_1).toList != a1.toList) = false := bne_eq_false_iff_eq.mpr c5
            clear c5
            obtain rfl := Option.some.inj H
            have p300 : 0 ≤ (x5_1 : Int) := of_decide_eq_true (by first | (with_reducible assumption) | assumption)
            have q300 : x5_1 < (l0.length : Int) := of_decide_eq_true (by first | (with_reducible assumption) | assumption)
            obtain ⟨ad300, e300, hx300_0⟩ := Kd.at_string HR0.out x5_1 p300 q300
            cases e300
            replace p300 := eq_true p300
            replace q300 := eq_true q300
            go_wp2
            go_ret
            exact ⟨by first | rfl | (simp; done) | (simp [*]; done), by repeat (first | exact Drawn0.refl _ | apply Drawn0.step)⟩
          · rw [if_neg c5] at H
            have c5b0 : ((rdOf ByteArray.empty l0 x5_1).toList == a1.toList) = false := beq_eq_false_iff_ne.mpr c5
            have c5b1 : ((rdOf ByteArray.empty l0 x5_1).toList != a1.toList) = true := bne_iff_ne.mpr c5
            have H' := Aside0.mk H
            clear H
            have p300 : 0 ≤ (x5_1 : Int) := of_decide_eq_true (by first | (with_reducible assumption) | assumption)
            have q300 : x5_1 < (l0.length : Int) := of_decide_eq_true (by first | (with_reducible assumption) | assumption)
            obtain ⟨ad300, e300, hx300_0⟩ := Kd.at_string HR0.out x5_1 p300 q300
            cases e300
            replace p300 := eq_true p300
            replace q300 := eq_true q300
            go_wp2
            go_roundg k1
            case measure => have := HK1.out; omega
            case rel => exact ⟨(wrap64 (x5_1 + 1)), (by first | rfl | (simp; done) | (simp [*]; done)), H', ⟨by have := HK1.out; omega⟩, by repeat (first | exact Drawn0.refl _ | apply Drawn0.step)⟩
        · rw [if_neg c4] at H
          exact absurd H (by simp)
      · rw [if_neg c3] at H
        have c3b0 : decide (x5_1 < (l0.length : Int)) = false := decide_eq_false c3
        clear c3
        obtain rfl := Option.some.inj H
        go_wp2
        go_ret
        exact ⟨by first | rfl | (simp; done) | (simp [*]; done), by repeat (first | exact Drawn0.refl _ | apply Drawn0.step)⟩

/-! ### prelude pbase -/
theorem wr64 (n : Int) (h1 : -9223372036854775808 ≤ n) (h2 : n ≤ 9223372036854775807) : wrap64 n = n := by unfold wrap64; omega
def hasB (l : List ByteArray) (x : ByteArray) : Bool := l.any fun y => decide (y = x)
theorem hasB_iff (l : List ByteArray) (x : ByteArray) : hasB l x = true ↔ x ∈ l := by
  unfold hasB
  rw [List.any_eq_true]
  constructor
  · rintro ⟨y, hy, h⟩; rw [decide_eq_true_eq] at h; rw [← h]; exact hy
  · intro h; exact ⟨x, h, by rw [decide_eq_true_eq]⟩
theorem has_l0 (l : List ByteArray) (x : ByteArray) (hl : l.length ≤ 1000000) : ∀ (k i : Nat), i ≤ l.length → l.length - i < k → unicodetextref40_Has.l0 k l x (i : Int) = some (hasB (l.drop i) x) := by
  intro k
  induction k with
  | zero => intro i h1 h2; omega
  | succ k ih =>
    intro i h1 h2
    rw [unicodetextref40_Has.l0]
    by_cases hi : i < l.length
    · rw [if_pos (by omega), if_pos (by omega), wr64 _ (by omega) (by omega), rdOf_nat, drop_at l ByteArray.empty i hi]
      unfold hasB
      rw [List.any_cons]
      by_cases h : l.getD i ByteArray.empty = x
      · rw [if_pos (by rw [h]), decide_eq_true h]; rfl
      · rw [if_neg (fun e => h ((bs_eq _ _).1 e)), decide_eq_false h, Bool.false_or]
        exact ih (i + 1) hi (by omega)
    · rw [if_neg (by omega), List.drop_of_length_le (by omega)]; rfl
theorem has_f (l : List ByteArray) (x : ByteArray) (hl : l.length ≤ 1000000) (k : Nat) (hk : l.length < k) : unicodetextref40_Has.f k l x = some (hasB l x) := by
  have := has_l0 l x hl k 0 (Nat.zero_le _) (by omega)
  unfold unicodetextref40_Has.f
  rw [show (0 : Int) = ((0 : Nat) : Int) from rfl, this]; rfl

/-! ### prelude pstr -/
theorem strings_l0 (l : List ByteArray) (hl : l.length ≤ 1000000) : ∀ (k i : Nat), i ≤ l.length → l.length - i < k → unicodetextref09_Strings.l0 k l l (i : Int) = some true := by
  intro k
  induction k with
  | zero => intro i h1 h2; omega
  | succ k ih =>
    intro i h1 h2
    rw [unicodetextref09_Strings.l0]
    by_cases hi : i < l.length
    · rw [if_pos (by omega), if_pos (by omega), if_pos (by omega), if_pos rfl, wr64 _ (by omega) (by omega)]
      exact ih (i + 1) hi (by omega)
    · rw [if_neg (by omega)]
theorem strings_f (l : List ByteArray) (hl : l.length ≤ 1000000) (k : Nat) (hk : l.length < k) : unicodetextref09_Strings.f k l l = some true := by
  unfold unicodetextref09_Strings.f
  rw [if_pos rfl]
  exact strings_l0 l hl k 0 (Nat.zero_le _) (by omega)

/-! ### scripts_Mixed: function 18 -/
def scripts_Mixed.f (l0_0 : List ByteArray) (l0_1 : List (S45)) (l1 : List Int) : Option (Bool) := (scripts_Of.f l0_0 l0_1 l1).bind fun t236 => (some (decide ((t236.length : Int) > 1)))
set_option maxHeartbeats 8000000 in
set_option maxRecDepth 100000 in
theorem scripts_Mixed.calls (A0_0 : Option Addr) (c0_0 : Nat) (l0_0 : List ByteArray) (A0_1 : Option Addr) (c0_1 : Nat) (l0_1 : List (S45)) (A1 : Option Addr) (c1 : Nat) (l1 : List Int) (r : Bool) (w : World) (hr0_0 : Kd.C Kd.string w A0_0 l0_0.length l0_0) (hc0_0 : l0_0.length ≤ c0_0) (hr0_1 : Kd.C k45 w A0_1 l0_1.length l0_1) (hc0_1 : l0_1.length ≤ c0_1) (hr1 : Kd.C (Kd.int .i64) w A1 l1.length l1) (hc1 : l1.length ≤ c1) (h : scripts_Mixed.f l0_0 l0_1 l1 = some r) :
    Calls Try.prog 18 #[.agg #[.slice A0_0 l0_0.length c0_0, .slice A0_1 l0_1.length c0_1], .slice A1 l1.length c1] w fun e w' => e = .returned (.bool r) ∧ Below w.heap.size w w' := by
  have hu25 := Try.underlying25
  have HR0_0 := Aside0.mk hr0_0
  have HC0_0 := Aside0.mk hc0_0
  clear hr0_0 hc0_0
  have HR0_1 := Aside0.mk hr0_1
  have HC0_1 := Aside0.mk hc0_1
  clear hr0_1 hc0_1
  have HR1 := Aside0.mk hr1
  have HC1 := Aside0.mk hc1
  clear hr1 hc1
  have HB := Aside0.mk (Below.refl w.heap.size w)
  have H : ((scripts_Of.f l0_0 l0_1 l1).bind fun t236 => (some (decide ((t236.length : Int) > 1)))) = some r := h
  clear h
  replace H := Option.bind_eq_some_iff.mp H
  obtain ⟨t236, A30, H⟩ := H
  replace H : (some (decide ((t236.length : Int) > 1))) = some r := H
  have A3 := Aside0.mk A30
  clear A30
  obtain rfl := Option.some.inj H
  go_enter Try.func18, Try.ntmps18
  go_wp2_with (first | ((with_reducible refine gate_dst (N := 2) rfl ?_); refine box_event ?hg (N := 2) ?hd (cs := #[.slice A0_0 l0_0.length c0_0, .slice A0_1 l0_1.length c0_1]) (t := 25) ?hr ?_; (case hd => rfl); (case hg => rfl); (case hr => first | (go_simp; done) | (go_simp; rfl)); intro gb235 hg w4 hbox hb; have n0_ := Aside0.mk (below_step (by repeat (first | (with_reducible first | exact HB.out | apply below_alloc | apply pw_below_drewN | apply below_drew1) | exact HB.out)) hb); have n1_ := Aside0.mk (hbox); have n2_ := Aside0.mk ((by rw [hg]; exact (below_size (by repeat (first | (with_reducible first | exact HB.out | apply below_alloc | apply pw_below_drewN | apply below_drew1) | exact HB.out))) : w.heap.size ≤ gb235)); have n3_ := Aside0.mk ((by rw [hg]; exact (below_size (by repeat (first | (with_reducible first | exact HB.out | apply below_alloc | apply pw_below_drewN | apply below_drew1) | exact HB.out))) : w.heap.size ≤ gb235)); clear HB; have HB := n0_; have BK235 := n1_; have GW235 := n2_; have GE235 := n3_; clear n0_ n1_ n2_ n3_; clear hb hbox hg; have hcz5_0 : w4.cell? ⟨gb235, 0, none⟩ = some (.slice A0_0 l0_0.length c0_0) := (blk_cell BK235.out 0).trans rfl; have hcz5_1 : w4.cell? ⟨gb235, 1, none⟩ = some (.slice A0_1 l0_1.length c0_1) := (blk_cell BK235.out 1).trans rfl; have hfz5_0 := blk_frozen BK235.out 0; have hfz5_1 := blk_frozen BK235.out 1) | ((with_reducible refine gate_callee (f := 15) rfl ?_); refine goesL_ (some 7) rfl rfl Try.func15 (by kernel_rfl) rfl #[.agg #[.slice A0_0 l0_0.length c0_0, .slice A0_1 l0_1.length c0_1], .slice A1 l1.length c1] rfl (by (try simp only [List.map_toArray, List.map_cons, List.map_nil]); first | done | rfl | (simp only [List.length_drop, List.length_take]; rfl)) ?_; (with_reducible refine (scripts_Of.calls _ _ l0_0 _ _ l0_1 _ _ l1 t236 _ ?side1 ?side2 ?side3 ?side4 ?side5 ?side6 A3.out).mono ?_); (case side1 => repeat (first | exact (Kd.C_below HR0_0.out HB.out) | (with_reducible refine Kd.C_alloc ?_ _) | (with_reducible refine Kd.C_drewN ?_ _) | (with_reducible refine Kd.C_drew ?_))); (case side2 => exact HC0_0.out); (case side3 => repeat (first | exact (Kd.C_below HR0_1.out HB.out) | (with_reducible refine Kd.C_alloc ?_ _) | (with_reducible refine Kd.C_drewN ?_ _) | (with_reducible refine Kd.C_drew ?_))); (case side4 => exact HC0_1.out); (case side5 => repeat (first | exact (Kd.C_below HR1.out HB.out) | (with_reducible refine Kd.C_alloc ?_ _) | (with_reducible refine Kd.C_drewN ?_ _) | (with_reducible refine Kd.C_drew ?_))); (case side6 => exact HC1.out); rintro e w6 ⟨v237, rfl, ho0, hb⟩; refine ⟨_, rfl, ?_⟩; have n0_ := Aside0.mk (Kd.R_lower ho0 (below_size (by repeat (first | (with_reducible first | exact HB.out | apply below_alloc | apply pw_below_drewN | apply below_drew1 | refine below_set ?_ GE235.out) | exact HB.out)))); have n1_ := Aside0.mk (blk_below (g := gb235) (o := .cells #[.slice A0_0 l0_0.length c0_0, .slice A0_1 l0_1.length c0_1] 25 (0, 0)) (by (with_reducible repeat (first | refine blk_drewN ?_ _ | refine blk_drew ?_ | refine blk_alloc ?_ _)); exact BK235.out) hb); have n2_ := Aside0.mk (below_step (by repeat (first | (with_reducible first | exact HB.out | apply below_alloc | apply pw_below_drewN | apply below_drew1 | refine below_set ?_ GE235.out) | exact HB.out)) hb); clear BK235; clear HB; have HO238 := n0_; have BK235 := n1_; have HB := n2_; clear n0_ n1_ n2_; (try clear hb); (try clear hb2); (try clear hk); (try clear hi); (try clear ho0); obtain ⟨Ao7, co7, eo7⟩ := Kd.R_slice HO238.out; subst eo7))
  go_ret
  exact ⟨by first | rfl | (simp [errW_none, errW_some] <;> rfl) | (simp [*, errW_none, errW_some] <;> rfl), by repeat (first | (with_reducible first | exact HB.out | apply below_alloc | apply pw_below_drewN | apply below_drew1 | refine below_set ?_ GE235.out) | exact HB.out)⟩

end Go.Proofs.Ytneelkaelcilfaa.PO

/- Keys and how urgent they are; lists of ids with keys in order. No program stands here. -/
import Derived.Test.YtlicnplclfclcaaIx
namespace Go.Proofs
open Go Go.Gx

structure KKey where
  edf : Bool
  dl : Int
  lv : Int
deriving DecidableEq, Inhabited
def KKey.cells (k : KKey) : List Value := [.bool k.edf, .int .u64 k.dl, .int .u8 k.lv]
def KKey.val (k : KKey) : Value := .agg k.cells.toArray
/-- As its kinds allow. -/
def KKey.ok (k : KKey) : Prop := (0 ≤ k.dl ∧ k.dl ≤ 18446744073709551615) ∧ 0 ≤ k.lv ∧ k.lv ≤ 255
def KKey.none : KKey := ⟨false, 0, 0⟩
def kDead (d : Int) : KKey := ⟨true, d, 0⟩
def kFixed (v : Int) : KKey := ⟨false, 0, v⟩
def kRight (k : KKey) : Bool := if k.edf then decide (k.lv = 0) else decide (k.dl = 0)
def kAbove (a b : KKey) : Bool := if a.edf && b.edf then decide (a.dl < b.dl) else if a.edf || b.edf then a.edf else decide (a.lv > b.lv)

theorem kRight_iff {k : KKey} : kRight k = true ↔ k = kDead k.dl ∨ k = kFixed k.lv := by
  obtain ⟨e, d, v⟩ := k
  cases e <;> simp [kRight, kDead, kFixed]
theorem kAbove_irrefl (a : KKey) : kAbove a a = false := by
  obtain ⟨e, d, v⟩ := a
  cases e <;> simp [kAbove]
theorem kAbove_trans {a b c : KKey} (h : kAbove a b = true) (g : kAbove c b = false) : kAbove a c = true := by
  obtain ⟨e, d, v⟩ := a; obtain ⟨e', d', v'⟩ := b; obtain ⟨e'', d'', v''⟩ := c
  cases e <;> cases e' <;> cases e'' <;> simp [kAbove] at h g ⊢ <;> omega
/-- Not less urgent, and not less urgent again. -/
theorem kNot_trans {a b c : KKey} (h : kAbove b a = false) (g : kAbove c b = false) : kAbove c a = false := by
  cases hc : kAbove c a with
  | false => rfl
  | true =>
    have := kAbove_trans hc h
    rw [g] at this
    cases this
theorem kAbove_asymm {a b : KKey} (h : kAbove a b = true) : kAbove b a = false := by
  cases hb : kAbove b a with
  | false => rfl
  | true =>
    have := kAbove_trans h (kAbove_irrefl b)
    obtain ⟨e, d, v⟩ := a; obtain ⟨e', d', v'⟩ := b
    cases e <;> cases e' <;> simp [kAbove] at h hb <;> omega
/-- The class of a key: deadlines first, then the levels from above. -/
def kClass (k : KKey) : Int := if k.edf then 0 else 256 - k.lv
theorem kClass_le {a b : KKey} (ha : a.ok) (hb : b.ok) (h : kAbove b a = false) : kClass a ≤ kClass b := by
  obtain ⟨e, d, v⟩ := a; obtain ⟨e', d', v'⟩ := b
  obtain ⟨_, h0, h1⟩ := ha
  obtain ⟨_, g0, g1⟩ := hb
  cases e <;> cases e' <;> simp [kAbove, kClass] at h h0 h1 g0 g1 ⊢ <;> omega

structure KItem where
  id : Int
  k : KKey
deriving Inhabited
def KItem.cells (x : KItem) : List Value := [.int .i64 x.id, .bool x.k.edf, .int .u64 x.k.dl, .int .u8 x.k.lv]
def kIds (l : List KItem) : List Int := l.map KItem.id
def KSorted (l : List KItem) : Prop := l.Pairwise fun a b => kAbove b.k a.k = false

/-- One more, behind those that are as urgent. -/
def kput (x : KItem) : List KItem → List KItem
  | [] => [x]
  | y :: t => if kAbove x.k y.k then x :: y :: t else y :: kput x t
def kout (l : List KItem) (id : Int) : List KItem := l.filter fun x => decide (x.id ≠ id)
theorem kput_perm (x : KItem) : ∀ l, (kput x l).Perm (x :: l)
  | [] => List.Perm.refl _
  | y :: t => by
    unfold kput; split
    · exact List.Perm.refl _
    · exact ((kput_perm x t).cons y).trans (List.Perm.swap x y t)
theorem kput_len (x : KItem) (l : List KItem) : (kput x l).length = l.length + 1 := (kput_perm x l).length_eq
theorem kput_sorted (x : KItem) : ∀ l, KSorted l → KSorted (kput x l)
  | [], _ => by simp [kput, KSorted]
  | y :: t, h => by
    obtain ⟨h1, h2⟩ := List.pairwise_cons.1 h
    unfold kput; split
    · rename_i hlt
      refine List.pairwise_cons.2 ⟨fun z hz => ?_, h⟩
      rcases List.mem_cons.1 hz with rfl | hz
      · exact kAbove_asymm hlt
      · exact kAbove_asymm (kAbove_trans hlt (h1 z hz))
    · rename_i hlt
      refine List.pairwise_cons.2 ⟨fun z hz => ?_, kput_sorted x t h2⟩
      rcases List.mem_cons.1 ((kput_perm x t).mem_iff.1 hz) with rfl | hz
      · simpa using hlt
      · exact h1 z hz
/-- All that are less urgent stand behind. -/
theorem kput_front {x : KItem} : ∀ {l : List KItem}, (∀ y ∈ l, kAbove x.k y.k = true) → kput x l = x :: l
  | [], _ => rfl
  | y :: t, h => by rw [kput, if_pos (h y (by simp))]
theorem kput_back {x : KItem} : ∀ {l : List KItem}, (∀ y ∈ l, kAbove x.k y.k = false) → kput x l = l ++ [x]
  | [], _ => rfl
  | y :: t, h => by
    rw [kput, if_neg (by simp [h y])]
    rw [kput_back fun z hz => h z (by simp [hz])]; rfl
theorem kput_filter_in {x : KItem} {p : KItem → Bool} (hx : p x = true) : ∀ {l : List KItem}, KSorted l → (kput x l).filter p = kput x (l.filter p)
  | [], _ => by simp [kput, hx]
  | y :: t, h => by
    obtain ⟨h1, h2⟩ := List.pairwise_cons.1 h
    by_cases hlt : kAbove x.k y.k = true
    · rw [kput, if_pos hlt, List.filter_cons, if_pos hx]
      symm
      apply kput_front
      intro z hz
      have hz := (List.mem_filter.1 hz).1
      rcases List.mem_cons.1 hz with rfl | hz
      · exact hlt
      · exact kAbove_trans hlt (h1 z hz)
    · rw [kput, if_neg hlt, List.filter_cons, List.filter_cons]
      have ih := kput_filter_in hx h2
      split
      · rw [ih, kput, if_neg hlt]
      · exact ih
theorem kput_filter_out {x : KItem} {p : KItem → Bool} (hx : p x = false) : ∀ (l : List KItem), (kput x l).filter p = l.filter p
  | [] => by simp [kput, hx]
  | y :: t => by
    unfold kput; split
    · rw [List.filter_cons, if_neg (by simp [hx])]
    · rw [List.filter_cons, List.filter_cons, kput_filter_out hx t]
theorem kput_out {x : KItem} : ∀ {l : List KItem}, x.id ∉ kIds l → kout (kput x l) x.id = l
  | [], _ => by simp [kput, kout]
  | y :: t, h => by
    simp only [kIds, List.map_cons, List.mem_cons, not_or] at h
    have hy : decide (y.id ≠ x.id) = true := decide_eq_true fun e => h.1 e.symm
    have hno : ∀ (m : List KItem), x.id ∉ m.map KItem.id → m.filter (fun z => decide (z.id ≠ x.id)) = m := fun m hm => by
      rw [List.filter_eq_self]
      intro z hz
      exact decide_eq_true fun e => hm (List.mem_map.2 ⟨z, hz, e⟩)
    unfold kput; split
    · rw [kout, List.filter_cons, if_neg (by simp)]
      exact hno _ (by simp only [List.map_cons, List.mem_cons, not_or]; exact h)
    · rw [kout, List.filter_cons, if_pos hy]
      exact congrArg (y :: ·) (kput_out h.2)

theorem kout_ids (l : List KItem) (id : Int) : kIds (kout l id) = (kIds l).filter fun i => decide (i ≠ id) := by
  unfold kIds kout
  rw [List.filter_map]; rfl
theorem mem_kout {l : List KItem} {id : Int} {x : KItem} : x ∈ kout l id ↔ x ∈ l ∧ x.id ≠ id := by simp [kout]
theorem mem_kout_ids {l : List KItem} {id i : Int} : i ∈ kIds (kout l id) ↔ i ∈ kIds l ∧ i ≠ id := by rw [kout_ids]; simp
theorem kout_not {l : List KItem} {id : Int} (h : id ∉ kIds l) : kout l id = l := by
  unfold kout
  rw [List.filter_eq_self]
  intro x hx
  exact decide_eq_true fun e => h (List.mem_map.2 ⟨x, hx, e⟩)
theorem kout_sorted {l : List KItem} (h : KSorted l) (id : Int) : KSorted (kout l id) := h.filter _
theorem kout_nodup {l : List KItem} (h : (kIds l).Nodup) (id : Int) : (kIds (kout l id)).Nodup := by rw [kout_ids]; exact h.filter _
theorem kout_head {x : KItem} {l : List KItem} (hn : (kIds (x :: l)).Nodup) : kout (x :: l) x.id = l := by
  simp only [kIds, List.map_cons, List.nodup_cons] at hn
  rw [kout, List.filter_cons, if_neg (by simp)]
  exact kout_not hn.1
theorem kout_erase {l : List KItem} (hn : (kIds l).Nodup) {id : Int} (h : id ∈ kIds l) : l.eraseIdx (ixOf (kIds l) id).toNat = kout l id := erase_filter hn h
theorem kid_inj {l : List KItem} (h : (kIds l).Nodup) {x y : KItem} (hx : x ∈ l) (hy : y ∈ l) (e : x.id = y.id) : x = y := by
  obtain ⟨i, hi, rfl⟩ := List.getElem_of_mem hx
  obtain ⟨j, hj, rfl⟩ := List.getElem_of_mem hy
  have : i = j := nodup_inj h (by simpa [kIds] using hi) (by simpa [kIds] using hj) (by simpa [kIds] using e)
  subst this
  rfl
theorem kout_len {l : List KItem} {id : Int} (h : (kIds l).Nodup) (hm : id ∈ kIds l) : (kout l id).length + 1 = l.length := by
  have h1 : (l.eraseIdx (ixOf (kIds l) id).toNat).length = l.length - 1 := by
    rw [List.length_eraseIdx, if_pos]
    have := ixOf_range (kIds l) id
    have h2 := ixOf_mem.2 hm
    simp only [kIds, List.length_map] at this h2 ⊢
    omega
  rw [kout_erase h hm] at h1
  have : 0 < l.length := by
    obtain ⟨x, hx, _⟩ := List.mem_map.1 hm
    exact List.length_pos_of_mem hx
  omega

/-- A list that is sorted by classes is its classes, one behind the other. -/
theorem classes_upto {l : List KItem} {c : KItem → Int} (hs : l.Pairwise fun a b => c a ≤ c b) (h0 : ∀ x ∈ l, 0 ≤ c x) : ∀ (N : Nat), l.filter (fun x => decide (c x < N)) = (List.range N).flatMap fun (j : Nat) => l.filter fun x => decide (c x = j)
  | 0 => by
    rw [List.range_zero, List.flatMap_nil, List.filter_eq_nil_iff]
    intro x hx
    have := h0 x hx
    simp; omega
  | N + 1 => by
    rw [List.range_succ, List.flatMap_append, ← classes_upto hs h0 N, List.flatMap_cons, List.flatMap_nil, List.append_nil]
    clear h0
    induction l with
    | nil => rfl
    | cons x l ih =>
      obtain ⟨h1, h2⟩ := List.pairwise_cons.1 hs
      have ih := ih h2
      rcases Int.lt_trichotomy (c x) N with h | h | h
      · have a : decide (c x < ((N + 1 : Nat) : Int)) = true := decide_eq_true (by omega)
        have b : decide (c x < (N : Int)) = true := decide_eq_true h
        have d : decide (c x = (N : Int)) = false := decide_eq_false (by omega)
        rw [List.filter_cons, if_pos a, List.filter_cons, if_pos b, List.filter_cons, if_neg (by simp [d]), ih]; rfl
      · have a : decide (c x < ((N + 1 : Nat) : Int)) = true := decide_eq_true (by omega)
        have b : decide (c x < (N : Int)) = false := decide_eq_false (by omega)
        have d : decide (c x = (N : Int)) = true := decide_eq_true h
        have e : l.filter (fun x => decide (c x < (N : Int))) = [] := by
          rw [List.filter_eq_nil_iff]
          intro y hy
          have := h1 y hy
          simp; omega
        rw [e, List.nil_append] at ih
        rw [List.filter_cons, if_pos a, List.filter_cons, if_neg (by simp [b]), e, List.filter_cons, if_pos d, List.nil_append, ih]
      · have a : decide (c x < ((N + 1 : Nat) : Int)) = false := decide_eq_false (by omega)
        have b : decide (c x < (N : Int)) = false := decide_eq_false (by omega)
        have d : decide (c x = (N : Int)) = false := decide_eq_false (by omega)
        rw [List.filter_cons, if_neg (by rw [a]; exact Bool.false_ne_true), List.filter_cons, if_neg (by rw [b]; exact Bool.false_ne_true), List.filter_cons, if_neg (by rw [d]; exact Bool.false_ne_true), ih]

/-! ### what is told of a list -/
def kErr (l : List KItem) (n : Nat) (id : Int) (right t : Bool) : Int := if id < 0 ∨ id ≥ n ∨ right = false then 2 else if t = true ∧ id ∉ kIds l then 6 else if t = false ∧ id ∈ kIds l then 5 else 0
theorem kErr_range {l : List KItem} {n : Nat} {id : Int} {r t : Bool} (h : id < 0 ∨ id ≥ n ∨ r = false) : kErr l n id r t = 2 := if_pos h
theorem kErr_none {l : List KItem} {n : Nat} {id : Int} {r : Bool} (h : ¬ (id < 0 ∨ id ≥ n ∨ r = false)) (h2 : id ∉ kIds l) : kErr l n id r true = 6 := by
  rw [kErr, if_neg h, if_pos ⟨rfl, h2⟩]
theorem kErr_known {l : List KItem} {n : Nat} {id : Int} {r : Bool} (h : ¬ (id < 0 ∨ id ≥ n ∨ r = false)) (h2 : id ∈ kIds l) : kErr l n id r false = 5 := by
  rw [kErr, if_neg h, if_neg (fun e => by cases e.1), if_pos ⟨rfl, h2⟩]
theorem kErr_ok1 {l : List KItem} {n : Nat} {id : Int} {r : Bool} (h : ¬ (id < 0 ∨ id ≥ n ∨ r = false)) (h2 : id ∈ kIds l) : kErr l n id r true = 0 := by
  rw [kErr, if_neg h, if_neg (fun e => e.2 h2), if_neg (fun e => by cases e.1)]
theorem kErr_ok0 {l : List KItem} {n : Nat} {id : Int} {r : Bool} (h : ¬ (id < 0 ∨ id ≥ n ∨ r = false)) (h2 : id ∉ kIds l) : kErr l n id r false = 0 := by
  rw [kErr, if_neg h, if_neg (fun e => by cases e.1), if_neg (fun e => h2 e.2)]
theorem kErr_is0 {l : List KItem} {n : Nat} {id : Int} {r : Bool} (h : kErr l n id r false = 0) : (0 ≤ id ∧ id < n) ∧ r = true ∧ id ∉ kIds l := by
  by_cases h1 : id < 0 ∨ id ≥ n ∨ r = false
  · rw [kErr_range h1] at h; cases h
  · by_cases h2 : id ∈ kIds l
    · rw [kErr_known h1 h2] at h; cases h
    · exact ⟨by omega, by simpa using fun e => h1 (.inr (.inr e)), h2⟩
theorem kErr_is1 {l : List KItem} {n : Nat} {id : Int} {r : Bool} (h : kErr l n id r true = 0) : (0 ≤ id ∧ id < n) ∧ r = true ∧ id ∈ kIds l := by
  by_cases h1 : id < 0 ∨ id ≥ n ∨ r = false
  · rw [kErr_range h1] at h; cases h
  · by_cases h2 : id ∈ kIds l
    · exact ⟨by omega, by simpa using fun e => h1 (.inr (.inr e)), h2⟩
    · rw [kErr_none h1 h2] at h; cases h

def kGet? (l : List KItem) (id : Int) : Option KItem := l.find? fun x => decide (x.id = id)
def kGetK (l : List KItem) (id : Int) : KKey := ((kGet? l id).map KItem.k).getD KKey.none
def kGetOk (l : List KItem) (id : Int) : Bool := decide (id ∈ kIds l)
theorem kGet?_none {l : List KItem} {id : Int} (h : id ∉ kIds l) : kGet? l id = none := by
  unfold kGet?
  rw [List.find?_eq_none]
  intro x hx e
  exact h (List.mem_map.2 ⟨x, hx, by simpa using e⟩)
theorem kGet?_some {l : List KItem} (hn : (kIds l).Nodup) {x : KItem} (hx : x ∈ l) : kGet? l x.id = some x := by
  unfold kGet?
  rw [List.find?_eq_some_iff_getElem]
  obtain ⟨i, hi, rfl⟩ := List.getElem_of_mem hx
  refine ⟨by simp, i, hi, rfl, fun j hj => ?_⟩
  simp only [Bool.not_eq_eq_eq_not, Bool.not_true, decide_eq_false_iff_not]
  intro e
  have := nodup_inj hn (i := j) (j := i) (by simp [kIds]; omega) (by simpa [kIds] using hi) (by simpa [kIds] using e)
  omega
theorem kGetK_none {l : List KItem} {id : Int} (h : id ∉ kIds l) : kGetK l id = KKey.none ∧ kGetOk l id = false := by simp [kGetK, kGetOk, kGet?_none h, h]
theorem kGetK_some {l : List KItem} (hn : (kIds l).Nodup) {x : KItem} (hx : x ∈ l) : kGetK l x.id = x.k ∧ kGetOk l x.id = true := by
  have : x.id ∈ kIds l := List.mem_map.2 ⟨x, hx, rfl⟩
  simp [kGetK, kGetOk, kGet?_some hn hx, this]

/-- The error of a Put, and what it leaves. -/
def kPutErr (l : List KItem) (n : Nat) (most : Int) (id : Int) (k : KKey) : Int := if kErr l n id (kRight k) false = 0 then (if (l.length : Int) ≥ most then 4 else 0) else kErr l n id (kRight k) false
def kPut (l : List KItem) (n : Nat) (most : Int) (id : Int) (k : KKey) : List KItem := if kPutErr l n most id k = 0 then kput ⟨id, k⟩ l else l
def kChg (l : List KItem) (n : Nat) (id : Int) (k : KKey) : List KItem := if kErr l n id (kRight k) true = 0 ∧ kGetK l id ≠ k then kput ⟨id, k⟩ (kout l id) else l
def kRem (l : List KItem) (n : Nat) (id : Int) : List KItem := if kErr l n id true true = 0 then kout l id else l
def kTopId (l : List KItem) : Int := (l.head?.map KItem.id).getD 0
def kTopK (l : List KItem) : KKey := (l.head?.map KItem.k).getD KKey.none
def kTopOk (l : List KItem) : Bool := !l.isEmpty

/-- A list as a set of n ids has it. -/
structure KOk (n : Nat) (l : List KItem) : Prop where
  nodup : (kIds l).Nodup
  sorted : KSorted l
  range : ∀ x ∈ l, 0 ≤ x.id ∧ x.id < n
  right : ∀ x ∈ l, kRight x.k = true
  ok : ∀ x ∈ l, x.k.ok
theorem KOk.lenLe {n : Nat} {l : List KItem} (h : KOk n l) : l.length ≤ n := by
  have := nodup_bound n (kIds l) h.nodup (fun a ha => by
    obtain ⟨x, hx, rfl⟩ := List.mem_map.1 ha
    exact h.range x hx)
  simpa [kIds] using this
theorem KOk.nil {n : Nat} : KOk n [] := ⟨by simp [kIds], List.Pairwise.nil, by simp, by simp, by simp⟩
theorem KOk.put {n : Nat} {l : List KItem} (h : KOk n l) {x : KItem} (h0 : 0 ≤ x.id ∧ x.id < n) (hr : kRight x.k = true) (ho : x.k.ok) (hx : x.id ∉ kIds l) : KOk n (kput x l) := by
  have hp := kput_perm x l
  have hids : (kIds (kput x l)).Perm (x.id :: kIds l) := hp.map KItem.id
  refine ⟨hids.nodup_iff.2 (List.nodup_cons.2 ⟨hx, h.nodup⟩), kput_sorted x l h.sorted, fun y hy => ?_, fun y hy => ?_, fun y hy => ?_⟩
  · rcases List.mem_cons.1 (hp.mem_iff.1 hy) with rfl | hy
    · exact h0
    · exact h.range y hy
  · rcases List.mem_cons.1 (hp.mem_iff.1 hy) with rfl | hy
    · exact hr
    · exact h.right y hy
  · rcases List.mem_cons.1 (hp.mem_iff.1 hy) with rfl | hy
    · exact ho
    · exact h.ok y hy
theorem KOk.out {n : Nat} {l : List KItem} (h : KOk n l) (id : Int) : KOk n (kout l id) :=
  ⟨kout_nodup h.nodup id, kout_sorted h.sorted id, fun y hy => h.range y (mem_kout.1 hy).1, fun y hy => h.right y (mem_kout.1 hy).1, fun y hy => h.ok y (mem_kout.1 hy).1⟩
theorem KOk.tail {n : Nat} {l : List KItem} (h : KOk n l) : KOk n l.tail := by
  cases l with
  | nil => exact h
  | cons x l => rw [List.tail_cons, ← kout_head h.nodup]; exact h.out _
theorem KOk.put' {n : Nat} {l : List KItem} (h : KOk n l) {most id : Int} {k : KKey} (ho : k.ok) : KOk n (kPut l n most id k) := by
  unfold kPut; split
  · rename_i h1
    unfold kPutErr at h1
    split at h1
    · obtain ⟨a, b, c⟩ := kErr_is0 (by assumption); exact h.put a b ho c
    · exact absurd h1 (by assumption)
  · exact h
theorem KOk.chg {n : Nat} {l : List KItem} (h : KOk n l) {id : Int} {k : KKey} (ho : k.ok) : KOk n (kChg l n id k) := by
  unfold kChg; split
  · rename_i h1
    obtain ⟨a, b, c⟩ := kErr_is1 h1.1; exact (h.out _).put a b ho (by rw [mem_kout_ids]; simp)
  · exact h
theorem KOk.rem {n : Nat} {l : List KItem} (h : KOk n l) (id : Int) : KOk n (kRem l n id) := by
  unfold kRem; split
  · exact h.out _
  · exact h
end Go.Proofs

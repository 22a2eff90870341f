/- What heaps of deadlines tell, in words of a list in order. No program stands here. -/
import Derived.Test.YtlicnplclfclcaaPhP
import Derived.Test.YtlicnplclfclcaaIx
namespace Go.Proofs
open Go Go.Gx

def PItem.cells (x : PItem) : List Value := [.int .i64 x.id, .int .u64 x.dl, .int .u64 x.sq]
theorem PItem.cells_len (x : PItem) : x.cells.length = 3 := rfl

/-- The error of an id that must be there, or must not. -/
def pErr (l : List PItem) (n : Nat) (id : Int) (t : Bool) : Int := if id < 0 ∨ id ≥ n then 2 else if t = true ∧ id ∉ pIds l then 6 else if t = false ∧ id ∈ pIds l then 5 else 0
theorem pErr_range {l : List PItem} {n : Nat} {id : Int} {t : Bool} (h : id < 0 ∨ id ≥ n) : pErr l n id t = 2 := if_pos h
theorem pErr_none {l : List PItem} {n : Nat} {id : Int} (h : ¬ (id < 0 ∨ id ≥ n)) (h2 : id ∉ pIds l) : pErr l n id true = 6 := by simp [pErr, h, h2]
theorem pErr_known {l : List PItem} {n : Nat} {id : Int} (h : ¬ (id < 0 ∨ id ≥ n)) (h2 : id ∈ pIds l) : pErr l n id false = 5 := by simp [pErr, h, h2]
theorem pErr_ok1 {l : List PItem} {n : Nat} {id : Int} (h : ¬ (id < 0 ∨ id ≥ n)) (h2 : id ∈ pIds l) : pErr l n id true = 0 := by simp [pErr, h, h2]
theorem pErr_ok0 {l : List PItem} {n : Nat} {id : Int} (h : ¬ (id < 0 ∨ id ≥ n)) (h2 : id ∉ pIds l) : pErr l n id false = 0 := by simp [pErr, h, h2]
theorem pErr_is0 {l : List PItem} {n : Nat} {id : Int} (h : pErr l n id false = 0) : (0 ≤ id ∧ id < n) ∧ id ∉ pIds l := by
  unfold pErr at h
  split at h
  · omega
  · simp only [Bool.false_eq_true, false_and, if_false, true_and] at h
    split at h
    · omega
    · exact ⟨by omega, by assumption⟩
theorem pErr_is1 {l : List PItem} {n : Nat} {id : Int} (h : pErr l n id true = 0) : (0 ≤ id ∧ id < n) ∧ id ∈ pIds l := by
  unfold pErr at h
  split at h
  · omega
  · simp only [Bool.true_eq_false, false_and, if_false, true_and] at h
    split at h
    · omega
    · exact ⟨by omega, Classical.not_not.1 (by assumption)⟩
def pIns (l : List PItem) (n : Nat) (x : PItem) : List PItem := if pErr l n x.id false = 0 then pput x l else l
def pChg (l : List PItem) (n : Nat) (x : PItem) : List PItem := if pErr l n x.id true = 0 then pput x (pout l x.id) else l
def pDel (l : List PItem) (n : Nat) (id : Int) : List PItem := if pErr l n id true = 0 then pout l id else l
def pMinId (l : List PItem) : Int := (l.head?.map PItem.id).getD 0
def pMinOk (l : List PItem) : Bool := !l.isEmpty
def pMin (l : List PItem) : Value := .tuple #[.int .i64 (pMinId l), .bool (pMinOk l)]
def pGet? (l : List PItem) (id : Int) : Option PItem := l.find? fun x => decide (x.id = id)
def pGetD (l : List PItem) (id : Int) : Int := ((pGet? l id).map PItem.dl).getD 0
def pGetS (l : List PItem) (id : Int) : Int := ((pGet? l id).map PItem.sq).getD 0
def pGetOk (l : List PItem) (id : Int) : Bool := decide (id ∈ pIds l)
def pGet (l : List PItem) (id : Int) : Value := .tuple #[.int .u64 (pGetD l id), .int .u64 (pGetS l id), .bool (pGetOk l id)]

theorem pGet?_none {l : List PItem} {id : Int} (h : id ∉ pIds l) : pGet? l id = none := by
  unfold pGet?
  rw [List.find?_eq_none]
  intro x hx e
  exact h (List.mem_map.2 ⟨x, hx, by simpa using e⟩)
theorem pGet?_some {l : List PItem} (hn : (pIds l).Nodup) {x : PItem} (hx : x ∈ l) : pGet? l x.id = some x := by
  unfold pGet?
  induction l with
  | nil => simp at hx
  | cons y l ih =>
    rw [List.find?_cons]
    by_cases h : y.id = x.id
    · simp only [h, decide_true]
      rcases List.mem_cons.1 hx with rfl | hx
      · rfl
      · simp only [pIds, List.map_cons, List.nodup_cons] at hn
        exact absurd (List.mem_map.2 ⟨x, hx, h.symm⟩) hn.1
    · simp only [h, decide_false]
      rcases List.mem_cons.1 hx with rfl | hx
      · exact absurd rfl h
      · simp only [pIds, List.map_cons, List.nodup_cons] at hn
        exact ih hn.2 hx
theorem pGet_none {l : List PItem} {id : Int} (h : id ∉ pIds l) : pGet l id = .tuple #[.int .u64 0, .int .u64 0, .bool false] := by
  simp [pGet, pGetD, pGetS, pGetOk, pGet?_none h, h]
theorem pGet_some {l : List PItem} (hn : (pIds l).Nodup) {x : PItem} (hx : x ∈ l) : pGet l x.id = .tuple #[.int .u64 x.dl, .int .u64 x.sq, .bool true] := by
  have : x.id ∈ pIds l := List.mem_map.2 ⟨x, hx, rfl⟩
  simp [pGet, pGetD, pGetS, pGetOk, pGet?_some hn hx, this]
theorem pout_head {x : PItem} {l : List PItem} (hn : (pIds (x :: l)).Nodup) : pout (x :: l) x.id = l := by
  simp only [pIds, List.map_cons, List.nodup_cons] at hn
  unfold pout
  rw [List.filter_cons]
  simp only [ne_eq, not_true, decide_false, Bool.false_eq_true, if_false]
  rw [List.filter_eq_self.2]
  intro y hy
  simp only [decide_not, Bool.not_eq_eq_eq_not, Bool.not_true, decide_eq_false_iff_not]
  intro e
  exact hn.1 (List.mem_map.2 ⟨y, hy, e⟩)
theorem pout_erase {l : List PItem} (hn : (pIds l).Nodup) {id : Int} (h : id ∈ pIds l) : l.eraseIdx (ixOf (pIds l) id).toNat = pout l id := erase_filter hn h
theorem pout_not {l : List PItem} {id : Int} (h : id ∉ pIds l) : pout l id = l := by
  unfold pout
  rw [List.filter_eq_self]
  intro x hx
  simp only [ne_eq, decide_not, Bool.not_eq_eq_eq_not, Bool.not_true, decide_eq_false_iff_not]
  intro e
  exact h (List.mem_map.2 ⟨x, hx, e⟩)

/-- A list as a heap of n ids has it. -/
structure POk (n : Nat) (l : List PItem) : Prop where
  nodup : (pIds l).Nodup
  sorted : l.Pairwise PItem.lt
  range : ∀ x ∈ l, 0 ≤ x.id ∧ x.id < n
theorem HI.pok {n : Nat} {l : List PItem} {f : PH} {root many : Int} {t : BT} (h : HI n l f root many t) : POk n l := ⟨h.nodup, h.sorted, h.range⟩
theorem POk.lenLe {n : Nat} {l : List PItem} (h : POk n l) : l.length ≤ n := by
  have := nodup_bound n (pIds l) h.nodup (fun a ha => by
    obtain ⟨x, hx, rfl⟩ := List.mem_map.1 ha
    exact h.range x hx)
  simpa [pIds] using this
theorem POk.nil {n : Nat} : POk n [] := ⟨by simp [pIds], List.Pairwise.nil, by simp⟩
theorem POk.put {n : Nat} {l : List PItem} (h : POk n l) {x : PItem} (h0 : 0 ≤ x.id ∧ x.id < n) (hx : x.id ∉ pIds l) : POk n (pput x l) := by
  have hpp := pput_perm x l
  have hids : (pIds (pput x l)).Perm (x.id :: pIds l) := hpp.map PItem.id
  refine ⟨hids.nodup_iff.2 (List.nodup_cons.2 ⟨hx, h.nodup⟩), pput_sorted x l h.sorted hx, fun y hy => ?_⟩
  rcases List.mem_cons.1 (hpp.mem_iff.1 hy) with rfl | hy
  · exact h0
  · exact h.range y hy
theorem POk.out {n : Nat} {l : List PItem} (h : POk n l) (id : Int) : POk n (pout l id) :=
  ⟨by rw [pout_ids]; exact h.nodup.filter _, h.sorted.filter _, fun y hy => h.range y (mem_pout.1 hy).1⟩
theorem POk.tail {n : Nat} {l : List PItem} (h : POk n l) : POk n l.tail := by
  cases l with
  | nil => exact h
  | cons x l => rw [List.tail_cons, ← pout_head h.nodup]; exact h.out _
theorem POk.ins {n : Nat} {l : List PItem} (h : POk n l) (x : PItem) : POk n (pIns l n x) := by
  unfold pIns; split
  · obtain ⟨a, b⟩ := pErr_is0 (by assumption); exact h.put a b
  · exact h
theorem POk.chg {n : Nat} {l : List PItem} (h : POk n l) (x : PItem) : POk n (pChg l n x) := by
  unfold pChg; split
  · obtain ⟨a, b⟩ := pErr_is1 (by assumption); exact (h.out _).put a (by rw [mem_pout_ids]; simp)
  · exact h
theorem POk.del {n : Nat} {l : List PItem} (h : POk n l) (id : Int) : POk n (pDel l n id) := by
  unfold pDel; split
  · exact h.out _
  · exact h
end Go.Proofs

/- The place of an id in a list of ids; taking one out by its place. No condition; nothing of any program stands here. -/
import Derived.Test.YtlicnplclfclcaaTab
namespace Go.Proofs
open Go Go.Gx

def ixFrom : List Int → Int → Int → Int
  | [], _, _ => -1
  | x :: xs, id, k => if x = id then k else ixFrom xs id (k + 1)
def ixOf (l : List Int) (id : Int) : Int := ixFrom l id 0

theorem ixFrom_spec (id : Int) : ∀ (l : List Int) (k : Int), (id ∉ l ∧ ixFrom l id k = -1) ∨ ∃ (i : Nat) (hi : i < l.length), ixFrom l id k = k + i ∧ l[i] = id ∧ ∀ j, (hj : j < i) → l[j] ≠ id := by
  intro l
  induction l with
  | nil => intro k; exact .inl ⟨by simp, rfl⟩
  | cons x l ih =>
    intro k
    simp only [ixFrom]
    by_cases h : x = id
    · rw [if_pos h]; exact .inr ⟨0, by simp, by simp, by simpa using h, fun j hj => by omega⟩
    · rw [if_neg h]
      rcases ih (k + 1) with ⟨h1, h2⟩ | ⟨i, hi, h1, h2, h3⟩
      · refine .inl ⟨?_, h2⟩
        simp only [List.mem_cons, not_or]
        exact ⟨fun e => h e.symm, h1⟩
      · refine .inr ⟨i + 1, by simp; omega, by omega, by simpa using h2, fun j hj => ?_⟩
        cases j with
        | zero => simpa using h
        | succ j => simpa using h3 j (by omega)
theorem ixOf_spec (l : List Int) (id : Int) : (id ∉ l ∧ ixOf l id = -1) ∨ ∃ (i : Nat) (hi : i < l.length), ixOf l id = i ∧ l[i] = id ∧ ∀ j, (hj : j < i) → l[j] ≠ id := by
  rcases ixFrom_spec id l 0 with h | ⟨i, hi, h1, h2⟩
  · exact .inl h
  · exact .inr ⟨i, hi, by unfold ixOf; omega, h2⟩
theorem ixOf_range (l : List Int) (id : Int) : -1 ≤ ixOf l id ∧ ixOf l id < l.length := by
  rcases ixOf_spec l id with ⟨_, h⟩ | ⟨i, hi, h, _⟩ <;> omega
theorem ixOf_mem {l : List Int} {id : Int} : 0 ≤ ixOf l id ↔ id ∈ l := by
  rcases ixOf_spec l id with ⟨h1, h2⟩ | ⟨i, hi, h1, h2, _⟩
  · rw [h2]; simp only [h1, iff_false]; omega
  · rw [h1]; constructor
    · intro _; rw [← h2]; exact List.getElem_mem _
    · intro _; omega
theorem ixOf_neg {l : List Int} {id : Int} : ixOf l id < 0 ↔ id ∉ l := by
  rw [← ixOf_mem]; omega
theorem ixOf_at {l : List Int} (h : l.Nodup) {i : Nat} (hi : i < l.length) : ixOf l l[i] = i := by
  rcases ixOf_spec l l[i] with ⟨h1, _⟩ | ⟨j, hj, h1, h2, _⟩
  · exact absurd (List.getElem_mem _) h1
  · have : j = i := nodup_inj h hj hi h2
    omega

theorem erase_filter {α : Type} {f : α → Int} {l : List α} (hn : (l.map f).Nodup) {id : Int} (h : id ∈ l.map f) : l.eraseIdx (ixOf (l.map f) id).toNat = l.filter fun x => decide (f x ≠ id) := by
  rcases ixOf_spec (l.map f) id with ⟨h1, h2⟩ | ⟨i, hi, h1, h2, _⟩
  · exact absurd h h1
  · rw [h1, Int.toNat_natCast]
    have hi' : i < l.length := by simpa using hi
    rw [List.eraseIdx_eq_take_drop_succ]
    have hl : l = l.take i ++ l[i] :: l.drop (i + 1) := by rw [← List.drop_eq_getElem_cons hi', List.take_append_drop]
    have hn' := hn
    rw [hl, List.map_append, List.map_cons, List.nodup_append, List.nodup_cons] at hn'
    obtain ⟨_, ⟨n1, _⟩, n2⟩ := hn'
    have h2' : f l[i] = id := by simpa using h2
    have hA : ∀ x ∈ l.take i, f x ≠ id := fun x hx e => n2 (f x) (List.mem_map.2 ⟨x, hx, rfl⟩) (f l[i]) (by simp) (e.trans h2'.symm)
    have hB : ∀ x ∈ l.drop (i + 1), f x ≠ id := fun x hx e => n1 (List.mem_map.2 ⟨x, hx, e.trans h2'.symm⟩)
    have : (l.filter fun x => decide (f x ≠ id)) = ((l.take i ++ l[i] :: l.drop (i + 1)).filter fun x => decide (f x ≠ id)) := by rw [← hl]
    rw [this, List.filter_append, List.filter_cons]
    simp only [h2', ne_eq, not_true, decide_false, Bool.false_eq_true, if_false]
    rw [List.filter_eq_self.2 (fun x hx => by simpa using hA x hx), List.filter_eq_self.2 (fun x hx => by simpa using hB x hx)]

/-- The slice that a loop fills, its rows told by a list. -/
abbrev ownR {α : Type} (v : Value) (T sz : Nat) (f : α → List Value) (l : List α) : HP := own v T sz l.length (l.flatMap f)
theorem ownR_snoc {α : Type} {v : Value} {T sz n : Nat} {f : α → List Value} {l : List α} {x : α} {cs : List Value} (hn : n = l.length + 1) (hc : cs = l.flatMap f ++ f x) : own v T sz n cs = ownR v T sz f (l ++ [x]) := by
  subst hn; subst hc
  simp [ownR]
theorem len_snoc {α : Type} (l : List α) (x : α) : (l ++ [x]).length = l.length + 1 := by simp
theorem flat_snoc {α : Type} (l : List α) (x : α) (f : α → List Value) : (l ++ [x]).flatMap f = l.flatMap f ++ f x := by simp
theorem rows_plain {α : Type} {f : α → List Value} (hf : ∀ x, (f x).all Value.plain = true) (l : List α) : (l.flatMap f).all Value.plain = true := by
  rw [List.all_flatMap, List.all_eq_true]
  intro x _
  exact hf x
/-- A cell of a row that a slice owns. -/
theorem row_cell {α : Type} {f : α → List Value} {sz : Nat} {c : Array Value} {l : List α} {m : Nat} (hf : ∀ x, (f x).length = sz) (h : c.toList.take m = l.flatMap f) (hm : m = l.length * sz) {i j : Nat} (hi : i < l.length) (hj : j < sz) {v : Value} (hv : (f l[i])[j]? = some v) {k : Nat} (hk : k = i * sz + j) : c.toList[k]? = some v := by
  subst hk
  have hlt : i * sz + j < m := by
    have : i * sz + sz ≤ l.length * sz := by rw [← Nat.succ_mul]; exact Nat.mul_le_mul_right _ hi
    omega
  rw [Array.getElem?_toList, own_cell h hlt, rows_cell f sz hf l i j hi hj, hv]
theorem row_cells {α : Type} {f : α → List Value} {sz : Nat} {c : Array Value} {l : List α} {m : Nat} (hf : ∀ x, (f x).length = sz) (h : c.toList.take m = l.flatMap f) (hm : m = l.length * sz) (hs : m ≤ c.size) {i : Nat} (hi : i < l.length) {k : Nat} (hk : k = i * sz) : c.extract k (k + sz) = (f l[i]).toArray := by
  subst hk
  have hle : i * sz + sz ≤ l.length * sz := by rw [← Nat.succ_mul]; exact Nat.mul_le_mul_right _ hi
  apply Array.ext'
  apply List.ext_getElem?
  intro j
  simp only [Array.toList_extract, List.extract_eq_take_drop]
  rw [List.getElem?_take, List.getElem?_drop, show i * sz + sz - i * sz = sz by omega]
  by_cases hj : j < sz
  · rw [if_pos hj, Array.getElem?_toList, own_cell h (by omega), rows_cell f sz hf l i j hi hj]
  · rw [if_neg hj, List.getElem?_eq_none (by rw [hf]; omega)]
end Go.Proofs

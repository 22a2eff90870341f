/- Tables in memory: rows of cells of one width, read and written by place; functions changed at one place. No condition; nothing of any program stands here. -/
import Derived.Test.YtlicnplclfclcaaGxE
namespace Go.Proofs
open Go Go.Gx

def upd {α : Type} (f : Int → α) (i : Int) (v : α) : Int → α := fun j => if j = i then v else f j
theorem upd_same {α : Type} (f : Int → α) (i : Int) (v : α) : upd f i v i = v := if_pos rfl
theorem upd_ne {α : Type} (f : Int → α) {i j : Int} (v : α) (h : j ≠ i) : upd f i v j = f j := if_neg h

theorem filter_ne_of_notin {s : List Int} {id : Int} (h : id ∉ s) : s.filter (fun a => decide (a ≠ id)) = s := by
  rw [List.filter_eq_self]
  intro a ha
  simp only [ne_eq, decide_eq_true_eq]
  exact fun e => h (e ▸ ha)
theorem filter_ne_split {A B : List Int} {id : Int} (h : (A ++ id :: B).Nodup) : (A ++ id :: B).filter (fun a => decide (a ≠ id)) = A ++ B := by
  rw [List.nodup_append] at h
  obtain ⟨h1, h2, h3⟩ := h
  rw [List.nodup_cons] at h2
  rw [List.filter_append, List.filter_cons, filter_ne_of_notin (fun hm => h3 id hm id (by simp) rfl), filter_ne_of_notin h2.1]
  simp

theorem nodup_bound : ∀ (n : Nat) (s : List Int), s.Nodup → (∀ a ∈ s, 0 ≤ a ∧ a < n) → s.length ≤ n := by
  intro n
  induction n with
  | zero =>
    intro s _ h
    cases s with
    | nil => simp
    | cons a t => have := h a (by simp); omega
  | succ n ih =>
    intro s hn h
    by_cases hm : (n : Int) ∈ s
    · obtain ⟨A, B, rfl⟩ := List.append_of_mem hm
      have hn2 := hn
      have e := filter_ne_split hn
      have h1 : (A ++ B).Nodup := by rw [← e]; exact (List.filter_sublist (l := A ++ (n : Int) :: B)).nodup hn
      have := ih (A ++ B) h1 (fun a ha => by
        have hb : a ∈ A ++ (n : Int) :: B := by
          rcases List.mem_append.1 ha with g | g
          · exact List.mem_append_left _ g
          · exact List.mem_append_right _ (List.mem_cons_of_mem _ g)
        have h2 := h a hb
        have h3 : a ≠ n := fun e2 => by
          rw [← e] at ha
          have := (List.mem_filter.1 ha).2
          simp [e2] at this
        omega)
      simp only [List.length_append, List.length_cons] at this ⊢
      omega
    · have := ih s hn (fun a ha => by
        have h2 := h a ha
        have h3 : a ≠ n := fun e2 => hm (e2 ▸ ha)
        omega)
      omega

/-- A table of n rows of sz cells. -/
structure Tab (sz n : Nat) (row : Int → List Value) (c : Array Value) : Prop where
  size : n * sz ≤ c.size
  wide : ∀ i : Int, 0 ≤ i → i < n → (row i).length = sz
  cell : ∀ i : Int, 0 ≤ i → i < n → ∀ j, j < sz → c.toList[i.toNat * sz + j]? = (row i)[j]?

theorem tab_le {sz n : Nat} {i : Int} (h0 : 0 ≤ i) (h1 : i < n) : i.toNat * sz + sz ≤ n * sz := by
  rw [← Nat.succ_mul]; exact Nat.mul_le_mul_right _ (by omega)
theorem tab_apart {sz : Nat} {a b j k : Nat} (hj : j < sz) (hk : k < sz) (e : a * sz + j = b * sz + k) : a = b ∧ j = k := by
  rcases Nat.lt_trichotomy a b with h | h | h
  · have : a * sz + sz ≤ b * sz := by rw [← Nat.succ_mul]; exact Nat.mul_le_mul_right _ h
    omega
  · subst h; exact ⟨rfl, by omega⟩
  · have : b * sz + sz ≤ a * sz := by rw [← Nat.succ_mul]; exact Nat.mul_le_mul_right _ h
    omega

theorem Tab.get {sz n : Nat} {row : Int → List Value} {c : Array Value} (h : Tab sz n row c) {i : Int} (h0 : 0 ≤ i) (h1 : i < n) (j : Nat) {v : Value} (hv : (row i)[j]? = some v) : c.toList[0 + i.toNat * sz + j]? = some v := by
  have hj : j < sz := by
    have := (List.getElem?_eq_some_iff.1 hv).1
    rwa [h.wide i h0 h1] at this
  rw [Nat.zero_add, h.cell i h0 h1 j hj, hv]
theorem Tab.row {sz n : Nat} {row : Int → List Value} {c : Array Value} (h : Tab sz n row c) {i : Int} (h0 : 0 ≤ i) (h1 : i < n) : c.extract (0 + i.toNat * sz) (0 + i.toNat * sz + sz) = (row i).toArray := by
  have hs := h.size
  have hw := h.wide i h0 h1
  apply Array.ext'
  apply List.ext_getElem?
  intro j
  simp only [Array.toList_extract, List.extract_eq_take_drop]
  rw [List.getElem?_take, List.getElem?_drop, show 0 + i.toNat * sz + sz - (0 + i.toNat * sz) = sz by omega]
  by_cases hj : j < sz
  · rw [if_pos hj, Nat.zero_add]; exact h.cell i h0 h1 j hj
  · rw [if_neg hj, List.getElem?_eq_none (by omega)]
theorem Tab.rowIn {sz n : Nat} {row : Int → List Value} {c : Array Value} (h : Tab sz n row c) {i : Int} (h0 : 0 ≤ i) (h1 : i < n) : 0 + i.toNat * sz + sz ≤ c.size := by
  have := h.size
  have := tab_le (sz := sz) h0 h1
  omega
theorem Tab.cellIn {sz n : Nat} {row : Int → List Value} {c : Array Value} (h : Tab sz n row c) {i : Int} (h0 : 0 ≤ i) (h1 : i < n) {k j : Nat} (hk : k = i.toNat * sz + j) (hj : j + 1 ≤ sz) : k + 1 ≤ c.size := by
  have := h.rowIn h0 h1
  omega
theorem Tab.set {sz n : Nat} {row row' : Int → List Value} {c : Array Value} (h : Tab sz n row c) {i : Int} (h0 : 0 ≤ i) (h1 : i < n) (j : Nat) {k : Nat} {v : Value} (hj : j < sz) (hk : k = i.toNat * sz + j) (hi : row' i = (row i).set j v) (hr : ∀ u, u ≠ i → row' u = row u) : Tab sz n row' (wr c k [v]) := by
  have hs := h.size
  have hle := tab_le (sz := sz) h0 h1
  have hg : ∀ m, (wr c k [v]).toList[m]? = if m = k then some v else c.toList[m]? := fun m => by
    have := wr_get [v] c k m (by simp only [List.length_singleton]; omega)
    rw [Array.getElem?_toList, this]
    by_cases h : m = k
    · subst h; simp
    · rw [if_neg (by simp only [List.length_singleton]; omega), if_neg h, Array.getElem?_toList]
  refine ⟨by rw [wr_size]; exact hs, fun u g0 g1 => ?_, fun u g0 g1 m hm => ?_⟩
  · by_cases e : u = i
    · subst e; rw [hi, List.length_set]; exact h.wide u g0 g1
    · rw [hr u e]; exact h.wide u g0 g1
  · rw [hg]
    by_cases e : u = i
    · subst e
      rw [hi]
      by_cases e2 : m = j
      · subst e2; rw [if_pos hk.symm, List.getElem?_set_self (by rw [h.wide u g0 g1]; exact hj)]
      · rw [if_neg (by omega), List.getElem?_set_ne (Ne.symm e2)]; exact h.cell u g0 g1 m hm
    · rw [hr u e, if_neg fun e2 => e (by have := (tab_apart hm hj (e2.trans hk)).1; omega)]
      exact h.cell u g0 g1 m hm
theorem Tab.setRow {sz n : Nat} {row row' : Int → List Value} {c : Array Value} (h : Tab sz n row c) {i : Int} (h0 : 0 ≤ i) (h1 : i < n) {k : Nat} {vs : List Value} (hk : k = i.toNat * sz) (hl : vs.length = sz) (hi : row' i = vs) (hr : ∀ u, u ≠ i → row' u = row u) : Tab sz n row' (wr c k vs) := by
  have hs := h.size
  have hle := tab_le (sz := sz) h0 h1
  subst hk
  have hg : ∀ m, (wr c (i.toNat * sz) vs).toList[m]? = if i.toNat * sz ≤ m ∧ m < i.toNat * sz + vs.length then vs[m - i.toNat * sz]? else c.toList[m]? := fun m => by
    rw [Array.getElem?_toList, wr_get _ _ _ _ (by omega), ← Array.getElem?_toList (xs := c)]
  refine ⟨by rw [wr_size]; exact hs, fun u g0 g1 => ?_, fun u g0 g1 m hm => ?_⟩
  · by_cases e : u = i
    · subst e; rw [hi]; exact hl
    · rw [hr u e]; exact h.wide u g0 g1
  · rw [hg]
    by_cases e : u = i
    · subst e
      rw [hi, if_pos (by omega), show u.toNat * sz + m - u.toNat * sz = m by omega]
    · rw [hr u e, if_neg fun e2 => e ?_]
      · exact h.cell u g0 g1 m hm
      · have : u.toNat * sz + m = i.toNat * sz + (u.toNat * sz + m - i.toNat * sz) := by omega
        have := (tab_apart hm (by omega) this).1
        omega
theorem Tab.congr {sz n : Nat} {row row' : Int → List Value} {c : Array Value} (h : Tab sz n row c) (hr : ∀ i : Int, 0 ≤ i → i < n → row' i = row i) : Tab sz n row' c :=
  ⟨h.size, fun i a b => by rw [hr i a b]; exact h.wide i a b, fun i a b => by rw [hr i a b]; exact h.cell i a b⟩
/-- A table of all the same rows. -/
theorem Tab.zero {sz n : Nat} {z : Array Value} (hz : z.size = sz) (h0 : 0 < sz) {m : Nat} (hm : m = n * sz) : Tab sz n (fun _ => z.toList) ((Array.range m).map (z[· % z.size]!)) := by
  subst hm
  refine ⟨by simp, fun _ _ _ => by simpa using hz, fun i g0 g1 j hj => ?_⟩
  have hlt : i.toNat * sz + j < n * sz := by have := tab_le (sz := sz) g0 g1; omega
  have hmod : (i.toNat * sz + j) % sz = j := by rw [Nat.mul_comm, Nat.mul_add_mod]; exact Nat.mod_eq_of_lt hj
  have hjz : j < z.size := by omega
  rw [Array.getElem?_toList, Array.getElem?_map, Array.getElem?_range]
  simp only [hlt, if_true, Option.map_some, hz, hmod]
  simp [hjz]
/-- Rows told by a list. -/
theorem Tab.rows {α : Type} {f : α → List Value} {sz : Nat} (hf : ∀ x, (f x).length = sz) {l : List α} {c : Array Value} {m : Nat} (hm : m = l.length * sz) (hs : m ≤ c.size) (h : c.toList.take m = l.flatMap f) (d : α) : Tab sz l.length (fun i => f (l.getD i.toNat d)) c := by
  subst hm
  refine ⟨hs, fun i _ _ => hf _, fun i g0 g1 j hj => ?_⟩
  have hi : i.toNat < l.length := by omega
  have hlt : i.toNat * sz + j < l.length * sz := by have := tab_le (sz := sz) g0 g1; omega
  rw [Array.getElem?_toList, own_cell h hlt, rows_cell f sz hf l i.toNat j hi hj]
  simp [List.getD, hi]

theorem Tab.copy {sz n : Nat} {row : Int → List Value} {c c' : Array Value} (h : Tab sz n row c) (hs : n * sz ≤ c'.size) (he : c'.toList.take (n * sz) = c.toList.take (n * sz)) : Tab sz n row c' := by
  refine ⟨hs, h.wide, fun i g0 g1 j hj => ?_⟩
  have hlt : i.toNat * sz + j < n * sz := by have := tab_le (sz := sz) g0 g1; omega
  have : (c'.toList.take (n * sz))[i.toNat * sz + j]? = (c.toList.take (n * sz))[i.toNat * sz + j]? := by rw [he]
  rw [List.getElem?_take_of_lt hlt, List.getElem?_take_of_lt hlt] at this
  rw [this]; exact h.cell i g0 g1 j hj
theorem Tab.plain {sz n : Nat} {row : Int → List Value} {c : Array Value} (h : Tab sz n row c) (hp : ∀ i, (row i).all Value.plain = true) : (List.take (n * sz) (List.drop 0 c.toList)).all Value.plain = true := by
  rw [List.all_eq_true]
  intro x hx
  obtain ⟨k, hk, rfl⟩ := List.getElem_of_mem hx
  simp only [List.drop_zero, List.length_take] at hk
  have hsz : 0 < sz := by
    rcases Nat.eq_zero_or_pos sz with e | e
    · subst e; omega
    · exact e
  have hkn : k < n * sz := by omega
  obtain ⟨q, r, hq, hr, e⟩ : ∃ q r, q < n ∧ r < sz ∧ q * sz + r = k := ⟨k / sz, k % sz, Nat.div_lt_of_lt_mul (by rw [Nat.mul_comm]; exact hkn), Nat.mod_lt _ hsz, by rw [Nat.mul_comm, Nat.add_comm, Nat.mod_add_div]⟩
  have h3 := h.cell (q : Nat) (by omega) (by omega) r hr
  rw [Int.toNat_natCast, e] at h3
  have hl := h.wide (q : Nat) (by omega) (by omega)
  rw [List.getElem?_eq_getElem (show r < (row (q : Nat)).length by omega)] at h3
  have h4 : (List.take (n * sz) (List.drop 0 c.toList))[k]? = some ((row (q : Nat))[r]'(by omega)) := by
    rw [List.drop_zero, List.getElem?_take_of_lt hkn]; exact h3
  rw [List.getElem?_eq_getElem (by simp only [List.drop_zero, List.length_take]; omega)] at h4
  rw [Option.some.inj h4]
  exact List.all_eq_true.1 (hp _) _ (List.getElem_mem _)

/-- A block that holds a table. -/
def tabP (b T sz n : Nat) (row : Int → List Value) : HP := fun F => ∃ c, Tab sz n row c ∧ pt b (.cells c T (0, 0)) F
variable {oo : World}
theorem _root_.Go.Gx.Sat.tabOpen {w : World} {L : List HP} {b T sz n : Nat} {row : Int → List Value} (hS : Sat oo w L) (k : Nat) (hk : L[k]? = some (tabP b T sz n row)) : ∃ c, Tab sz n row c ∧ Sat oo w (L.set k (pt b (.cells c T (0, 0)))) := by
  obtain ⟨c, h⟩ := hS.ex k (q := fun c F => Tab sz n row c ∧ pt b (.cells c T (0, 0)) F) hk (fun F h => h)
  have hlt : k < L.length := (List.getElem?_eq_some_iff.1 hk).1
  have h1 := h.fact k (List.getElem?_set_self hlt) (fun F hF => hF.1)
  have h2 := h.imp k (List.getElem?_set_self hlt) (p' := pt b (.cells c T (0, 0))) (fun F hF => hF.2)
  rw [List.set_set] at h2
  exact ⟨c, h1, h2⟩
theorem _root_.Go.Gx.Sat.tabShut {w : World} {L : List HP} {b T sz n : Nat} {row : Int → List Value} {c : Array Value} (hS : Sat oo w L) (k : Nat) (hk : L[k]? = some (pt b (.cells c T (0, 0)))) (h : Tab sz n row c) : Sat oo w (L.set k (tabP b T sz n row)) :=
  hS.imp k hk fun F hF => ⟨c, h, hF⟩
end Go.Proofs

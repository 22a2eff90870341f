/- Memory told as a list of pieces that lie apart: reading, writing and making a block, choosing and joining pieces. No condition. -/
import Derived.WalkKit
namespace Go.Gx
open Go

theorem nodup_shift (n c : Nat) : ((List.range n).map (· + c)).Nodup := by
  rw [List.Nodup, List.pairwise_map]
  exact List.nodup_range.imp fun h e => h (by omega)

theorem nodup_flatMap {α β : Type} {l : List α} {f : α → List β} : (l.flatMap f).Nodup ↔ (∀ a ∈ l, (f a).Nodup) ∧ l.Pairwise (fun a b => ∀ x ∈ f a, ∀ y ∈ f b, x ≠ y) := by
  unfold List.Nodup
  exact List.pairwise_flatMap
theorem nodup_inj {α : Type} {l : List α} (h : l.Nodup) {i j : Nat} (hi : i < l.length) (hj : j < l.length) (e : l[i] = l[j]) : i = j := by
  rcases Nat.lt_trichotomy i j with hlt | rfl | hlt
  · exact absurd e (List.pairwise_iff_getElem.1 h i j hi hj hlt)
  · rfl
  · exact absurd e.symm (List.pairwise_iff_getElem.1 h j i hj hi hlt)

abbrev Frag := List (Nat × Obj)
abbrev HP := Frag → Prop

def pt (b : Nat) (o : Obj) : HP := fun F => F = [(b, o)]
def emp : HP := fun F => F = []
def Star (ps : List HP) : HP := fun F => ∃ G : Nat → Frag, (∀ i (p : HP), ps[i]? = some p → p (G i)) ∧ F = (List.range ps.length).flatMap G

/-- What of a world is no memory: as it was. -/
def Outs (oo w : World) : Prop := w.os = oo.os ∧ w.tape = oo.tape ∧ w.output = oo.output
theorem Outs.via {oo w w' : World} (h : Outs oo w) (e : Outs w w') : Outs oo w' := ⟨e.1.trans h.1, e.2.1.trans h.2.1, e.2.2.trans h.2.2⟩

structure Lies (oo w : World) (n : Nat) (F : Nat → Frag) : Prop where
  own : ∀ i, i < n → ((F i).map (·.1)).Nodup
  apart : ∀ i j, i < n → j < n → i ≠ j → ∀ b, b ∈ (F i).map (·.1) → b ∉ (F j).map (·.1)
  lies : ∀ i, i < n → ∀ x ∈ F i, w.heap[x.1]? = some x.2
  outs : Outs oo w

variable {oo : World}

def Sat (oo w : World) (L : List HP) : Prop := ∃ F : Nat → Frag, (∀ i (p : HP), L[i]? = some p → p (F i)) ∧ Lies oo w L.length F

theorem Sat.get {w : World} {L : List HP} (h : Sat oo w L) (k : Nat) {b : Nat} {o : Obj} (hk : L[k]? = some (pt b o)) : w.heap[b]? = some o := by
  obtain ⟨F, hF, hl⟩ := h
  have h1 : F k = [(b, o)] := hF k _ hk
  have hlt : k < L.length := (List.getElem?_eq_some_iff.1 hk).1
  exact hl.lies k hlt (b, o) (by rw [h1]; simp)

theorem Sat.at {w : World} {L : List HP} (h : Sat oo w L) (k : Nat) {b : Nat} {o : Obj} (hk : L[k]? = some (pt b o)) : ∀ w' : World, w'.heap = w.heap → w'.heap[b]? = some o := fun _ e => by rw [e]; exact h.get k hk

theorem Sat.heap {w w' : World} {L : List HP} (h : Sat oo w L) (e : w'.heap = w.heap) (eo : Outs w w' := by exact ⟨rfl, rfl, rfl⟩) : Sat oo w' L := by
  obtain ⟨F, hF, hl⟩ := h
  exact ⟨F, hF, hl.own, hl.apart, fun i hi x hx => by rw [e]; exact hl.lies i hi x hx, hl.outs.via eo⟩

theorem Sat.drew {w : World} {L : List HP} (h : Sat oo w L) : Sat oo w.drew L := h.heap rfl

/-- Writing a block. -/
theorem Sat.put {w w' : World} {L : List HP} (h : Sat oo w L) (k : Nat) {b : Nat} {o : Obj} (hk : L[k]? = some (pt b o)) (o' : Obj)
    (hb : w'.heap[b]? = some o') (hne : ∀ c, c ≠ b → w'.heap[c]? = w.heap[c]?) (eo : Outs w w' := by exact ⟨rfl, rfl, rfl⟩) : Sat oo w' (L.set k (pt b o')) := by
  obtain ⟨F, hF, hl⟩ := h
  have h1 : F k = [(b, o)] := hF k _ hk
  have hlt : k < L.length := (List.getElem?_eq_some_iff.1 hk).1
  have hkeys : ∀ i, ((if i = k then [(b, o')] else F i) : Frag).map (·.1) = (F i).map (·.1) := fun i => by
    by_cases e : i = k
    · subst e; simp [h1]
    · simp [e]
  refine ⟨fun i => if i = k then [(b, o')] else F i, ?_, ?_, ?_, ?_, hl.outs.via eo⟩
  · intro i p hp
    by_cases e : i = k
    · subst e
      rw [List.getElem?_set_self hlt] at hp
      injection hp with hp
      subst hp
      simp [pt]
    · rw [List.getElem?_set_ne (Ne.symm e)] at hp
      simpa [e] using hF i p hp
  · intro i hi
    rw [hkeys]
    exact hl.own i (by simpa using hi)
  · intro i j hi hj hij c hc
    rw [hkeys] at *
    exact hl.apart i j (by simpa using hi) (by simpa using hj) hij c hc
  · intro i hi x hx
    by_cases e : i = k
    · subst e
      simp only [if_true, List.mem_singleton] at hx
      subst hx
      exact hb
    · simp only [e, if_false] at hx
      have hi' : i < L.length := by simpa using hi
      have hxb : x.1 ≠ b := by
        intro e2
        refine hl.apart i k hi' hlt e x.1 (List.mem_map.2 ⟨x, hx, rfl⟩) ?_
        rw [h1, e2]; simp
      rw [hne _ hxb]
      exact hl.lies i hi' x hx

theorem Sat.lt {w : World} {L : List HP} {F : Nat → Frag} (hl : Lies oo w L.length F) {i : Nat} (hi : i < L.length) {b : Nat} (hb : b ∈ (F i).map (·.1)) : b < w.heap.size := by
  obtain ⟨x, hx, rfl⟩ := List.mem_map.1 hb
  have := hl.lies i hi x hx
  rcases Nat.lt_or_ge x.1 w.heap.size with h | h
  · exact h
  · rw [Array.getElem?_eq_none h] at this; cases this

/-- A new block. -/
theorem Sat.new {w w' : World} {L : List HP} (h : Sat oo w L) (o : Obj) (e : w'.heap = w.heap.push o) (eo : Outs w w' := by exact ⟨rfl, rfl, rfl⟩) : Sat oo w' (pt w.heap.size o :: L) := by
  obtain ⟨F, hF, hl⟩ := h
  refine ⟨fun i => match i with | 0 => [(w.heap.size, o)] | i + 1 => F i, ?_, ?_, ?_, ?_, hl.outs.via eo⟩
  · intro i p hp
    cases i with
    | zero => simp at hp; subst hp; simp [pt]
    | succ i => exact hF i p (by simpa using hp)
  · intro i hi
    cases i with
    | zero => simp
    | succ i => exact hl.own i (by simpa using hi)
  · intro i j hi hj hij c hc hc'
    cases i with
    | zero =>
      cases j with
      | zero => exact hij rfl
      | succ j =>
        have hj' : j < L.length := by simpa using hj
        have := Sat.lt hl hj' hc'
        simp at hc
        omega
    | succ i =>
      have hi' : i < L.length := by simpa using hi
      cases j with
      | zero =>
        have := Sat.lt hl hi' hc
        simp at hc'
        omega
      | succ j => exact hl.apart i j hi' (by simpa using hj) (by omega) c hc hc'
  · intro i hi x hx
    cases i with
    | zero => simp at hx; subst hx; rw [e]; simp
    | succ i =>
      have hi' : i < L.length := by simpa using hi
      have hx' := hl.lies i hi' x hx
      have hlt : x.1 < w.heap.size := Sat.lt hl hi' (List.mem_map.2 ⟨x, hx, rfl⟩)
      rw [e, Array.getElem?_push_lt hlt]
      rw [Array.getElem?_eq_getElem hlt] at hx'
      exact hx'

/-- Choosing pieces, each at most once. -/
theorem Sat.sel {w : World} {L : List HP} (h : Sat oo w L) (s : List Nat) {L' : List HP} (hs : s.Nodup) (hL : s.map (fun i => L[i]?) = L'.map some) : Sat oo w L' := by
  obtain ⟨F, hF, hl⟩ := h
  have hlen : s.length = L'.length := by have := congrArg List.length hL; simpa using this
  have hat : ∀ i (hi : i < L'.length), L[s[i]'(by omega)]? = some L'[i] := fun i hi => by
    have h1 : (s.map (fun i => L[i]?))[i]'(by simp; omega) = (L'.map some)[i]'(by simp; omega) := by simp only [hL]
    simpa using h1
  have hsl : ∀ i (hi : i < L'.length), s[i]'(by omega) < L.length := fun i hi => (List.getElem?_eq_some_iff.1 (hat i hi)).1
  have hget : ∀ i (hi : i < L'.length), s.getD i 0 = s[i]'(by omega) := fun i hi => by simp [List.getElem?_eq_getElem (show i < s.length by omega)]
  refine ⟨fun i => F (s.getD i 0), ?_, ?_, ?_, ?_, hl.outs⟩
  · intro i p hp
    obtain ⟨hi, rfl⟩ := List.getElem?_eq_some_iff.1 hp
    show L'[i] (F (s.getD i 0))
    rw [hget i hi]
    exact hF _ _ (hat i hi)
  · intro i hi
    show ((F (s.getD i 0)).map (·.1)).Nodup
    rw [hget i hi]
    exact hl.own _ (hsl i hi)
  · intro i j hi hj hij
    show ∀ b, b ∈ (F (s.getD i 0)).map (·.1) → b ∉ (F (s.getD j 0)).map (·.1)
    rw [hget i hi, hget j hj]
    refine hl.apart _ _ (hsl i hi) (hsl j hj) ?_
    intro e
    exact hij (nodup_inj hs _ _ e)
  · intro i hi
    show ∀ x ∈ F (s.getD i 0), _
    rw [hget i hi]
    exact hl.lies _ (hsl i hi)

def selL (L : List HP) : List Nat → Option (List HP)
  | [] => some []
  | i :: t => match L[i]?, selL L t with
    | some p, some r => some (p :: r)
    | _, _ => none
theorem selL_map {L : List HP} : ∀ (t : List Nat) (r : List HP), selL L t = some r → t.map (fun i => L[i]?) = r.map some := by
  intro t
  induction t with
  | nil => intro r h; simp [selL] at h; subst h; rfl
  | cons i t ih =>
    intro r h
    simp only [selL] at h
    cases h1 : L[i]? with
    | none => rw [h1] at h; simp at h
    | some p =>
      cases h2 : selL L t with
      | none => rw [h1, h2] at h; simp at h
      | some q =>
        rw [h1, h2] at h
        simp only [Option.some.injEq] at h
        subst h
        simp [h1, ih q h2]
theorem Sat.pick {w : World} {L : List HP} (h : Sat oo w L) (s : List Nat) {L' : List HP} (hs : s.Nodup) (hL : selL L s = some L') : Sat oo w L' := h.sel s hs (selL_map s L' hL)

/-- The last pieces as one. -/
theorem Sat.join {w : World} {A B : List HP} (h : Sat oo w (A ++ B)) : Sat oo w (A ++ [Star B]) := by
  obtain ⟨F, hF, hl⟩ := h
  have keysB : ∀ c, c ∈ ((List.range B.length).flatMap fun i => F (A.length + i)).map (·.1) → ∃ i, i < B.length ∧ c ∈ (F (A.length + i)).map (·.1) := by
    intro c hc
    obtain ⟨x, hx, rfl⟩ := List.mem_map.1 hc
    obtain ⟨i, hi, hx⟩ := List.mem_flatMap.1 hx
    exact ⟨i, List.mem_range.1 hi, List.mem_map.2 ⟨x, hx, rfl⟩⟩
  refine ⟨fun i => if i < A.length then F i else (List.range B.length).flatMap fun i => F (A.length + i), ?_, ?_, ?_, ?_, hl.outs⟩
  · intro i p hp
    by_cases hi : i < A.length
    · simp only [hi, if_true]
      rw [List.getElem?_append_left hi] at hp
      exact hF i p (by rw [List.getElem?_append_left hi]; exact hp)
    · simp only [hi, if_false]
      rw [List.getElem?_append_right (by omega)] at hp
      have hz : i - A.length = 0 := by
        rcases Nat.eq_zero_or_pos (i - A.length) with h | h
        · exact h
        · rw [List.getElem?_eq_none (by simp; omega)] at hp; cases hp
      rw [hz] at hp
      simp at hp
      subst hp
      exact ⟨fun i => F (A.length + i), fun j p hj => hF _ p (by rw [List.getElem?_append_right (by omega)]; simpa using hj), rfl⟩
  · intro i hi
    by_cases hi' : i < A.length
    · simp only [hi', if_true]
      exact hl.own i (by simp; omega)
    · simp only [hi', if_false]
      rw [List.map_flatMap]
      refine nodup_flatMap.2 ⟨fun j hj => hl.own _ (by simp; have := List.mem_range.1 hj; omega), ?_⟩
      refine List.Pairwise.imp_of_mem ?_ (List.nodup_range (n := B.length))
      intro a b ha hb hne c hc c' hc' e
      subst e
      have ha := List.mem_range.1 ha
      have hb := List.mem_range.1 hb
      exact hl.apart (A.length + a) (A.length + b) (by simp; omega) (by simp; omega) (by omega) c hc hc'
  · intro i j hi hj hij c hc hc'
    simp only [List.length_append, List.length_cons, List.length_nil] at hi hj
    by_cases hi' : i < A.length
    · simp only [hi', if_true] at hc
      by_cases hj' : j < A.length
      · simp only [hj', if_true] at hc'
        exact hl.apart i j (by simp; omega) (by simp; omega) hij c hc hc'
      · simp only [hj', if_false] at hc'
        obtain ⟨k, hk, hc'⟩ := keysB c hc'
        exact hl.apart i (A.length + k) (by simp; omega) (by simp; omega) (by omega) c hc hc'
    · simp only [hi', if_false] at hc
      obtain ⟨k, hk, hc⟩ := keysB c hc
      by_cases hj' : j < A.length
      · simp only [hj', if_true] at hc'
        exact hl.apart (A.length + k) j (by simp; omega) (by simp; omega) (by omega) c hc hc'
      · omega
  · intro i hi x hx
    by_cases hi' : i < A.length
    · simp only [hi', if_true] at hx
      exact hl.lies i (by simp; omega) x hx
    · simp only [hi', if_false] at hx
      obtain ⟨k, hk, hx⟩ := List.mem_flatMap.1 hx
      exact hl.lies (A.length + k) (by simp; have := List.mem_range.1 hk; omega) x hx

theorem Sat.split {w : World} {A B : List HP} (h : Sat oo w (A ++ [Star B])) : Sat oo w (A ++ B) := by
  obtain ⟨F, hF, hl⟩ := h
  obtain ⟨G, hG, hFG⟩ : Star B (F A.length) := hF A.length _ (by simp)
  have hlast : A.length < (A ++ [Star B]).length := by simp
  have hkeys : ∀ j, j < B.length → ∀ c, c ∈ (G j).map (·.1) → c ∈ (F A.length).map (·.1) := by
    intro j hj c hc
    rw [hFG]
    obtain ⟨x, hx, rfl⟩ := List.mem_map.1 hc
    exact List.mem_map.2 ⟨x, List.mem_flatMap.2 ⟨j, List.mem_range.2 hj, hx⟩, rfl⟩
  have hnd := hl.own A.length hlast
  rw [hFG, List.map_flatMap, nodup_flatMap] at hnd
  refine ⟨fun i => if i < A.length then F i else G (i - A.length), ?_, ?_, ?_, ?_, hl.outs⟩
  · intro i p hp
    by_cases hi : i < A.length
    · simp only [hi, if_true]
      rw [List.getElem?_append_left hi] at hp
      exact hF i p (by rw [List.getElem?_append_left hi]; exact hp)
    · simp only [hi, if_false]
      rw [List.getElem?_append_right (by omega)] at hp
      exact hG _ p hp
  · intro i hi
    simp only [List.length_append] at hi
    by_cases hi' : i < A.length
    · simp only [hi', if_true]
      exact hl.own i (by simp; omega)
    · simp only [hi', if_false]
      exact hnd.1 _ (List.mem_range.2 (by omega))
  · intro i j hi hj hij c hc hc'
    simp only [List.length_append] at hi hj
    by_cases hi' : i < A.length
    · simp only [hi', if_true] at hc
      by_cases hj' : j < A.length
      · simp only [hj', if_true] at hc'
        exact hl.apart i j (by simp; omega) (by simp; omega) hij c hc hc'
      · simp only [hj', if_false] at hc'
        exact hl.apart i A.length (by simp; omega) hlast (by omega) c hc (hkeys _ (by omega) c hc')
    · simp only [hi', if_false] at hc
      by_cases hj' : j < A.length
      · simp only [hj', if_true] at hc'
        exact hl.apart A.length j hlast (by simp; omega) (by omega) c (hkeys _ (by omega) c hc) hc'
      · simp only [hj', if_false] at hc'
        have hpw := List.pairwise_iff_getElem.1 hnd.2
        rcases Nat.lt_or_gt_of_ne (show i - A.length ≠ j - A.length by omega) with hlt | hlt
        · have := hpw (i - A.length) (j - A.length) (by simp; omega) (by simp; omega) hlt
          simp only [List.getElem_range] at this
          exact this _ hc _ hc' rfl
        · have := hpw (j - A.length) (i - A.length) (by simp; omega) (by simp; omega) hlt
          simp only [List.getElem_range] at this
          exact this _ hc' _ hc rfl
  · intro i hi x hx
    simp only [List.length_append] at hi
    by_cases hi' : i < A.length
    · simp only [hi', if_true] at hx
      exact hl.lies i (by simp; omega) x hx
    · simp only [hi', if_false] at hx
      refine hl.lies A.length hlast x ?_
      rw [hFG]
      exact List.mem_flatMap.2 ⟨_, List.mem_range.2 (by omega), hx⟩

/-- A piece for another one that its fragments serve as well. -/
theorem Sat.imp {w : World} {L : List HP} (h : Sat oo w L) (k : Nat) {p p' : HP} (hk : L[k]? = some p) (hp : ∀ F, p F → p' F) : Sat oo w (L.set k p') := by
  obtain ⟨F, hF, hl⟩ := h
  have hlt : k < L.length := (List.getElem?_eq_some_iff.1 hk).1
  refine ⟨F, ?_, by simpa using hl⟩
  intro i q hq
  by_cases e : i = k
  · subst e
    rw [List.getElem?_set_self hlt] at hq
    injection hq with hq
    subst hq
    exact hp _ (hF _ _ hk)
  · rw [List.getElem?_set_ne (Ne.symm e)] at hq
    exact hF i q hq

/-- What a piece says of its fragment, whatever that is. -/
theorem Sat.ex {w : World} {L : List HP} {α : Sort _} (h : Sat oo w L) (k : Nat) {p : HP} {q : α → HP} (hk : L[k]? = some p) (hp : ∀ F, p F → ∃ x, q x F) : ∃ x, Sat oo w (L.set k (q x)) := by
  obtain ⟨F, hF, hl⟩ := h
  have hlt : k < L.length := (List.getElem?_eq_some_iff.1 hk).1
  obtain ⟨x, hx⟩ := hp _ (hF _ _ hk)
  refine ⟨x, F, ?_, by simpa using hl⟩
  intro i r hr
  by_cases e : i = k
  · subst e
    rw [List.getElem?_set_self hlt] at hr
    injection hr with hr
    subst hr
    exact hx
  · rw [List.getElem?_set_ne (Ne.symm e)] at hr
    exact hF i r hr

theorem Sat.fact {w : World} {L : List HP} {φ : Prop} (h : Sat oo w L) (k : Nat) {p : HP} (hk : L[k]? = some p) (hp : ∀ F, p F → φ) : φ := by
  obtain ⟨F, hF, hl⟩ := h
  exact hp _ (hF _ _ hk)

/-- A piece that is several, in the front. -/
theorem Sat.unstar {w : World} {B L : List HP} (h : Sat oo w (Star B :: L)) : Sat oo w (B ++ L) := by
  have h1 : Sat oo w (L ++ [Star B]) := by
    refine h.sel ((List.range L.length).map (· + 1) ++ [0]) ?_ ?_
    · rw [List.nodup_append]
      refine ⟨nodup_shift _ _, by simp, ?_⟩
      intro a ha b hb e
      simp at ha hb
      omega
    · rw [List.map_append, List.map_append, List.map_map]
      congr 1
      apply List.ext_getElem
      · simp
      · intro i h1 h2
        simp
  have h2 := h1.split
  refine h2.sel ((List.range B.length).map (· + L.length) ++ List.range L.length) ?_ ?_
  · rw [List.nodup_append]
    refine ⟨nodup_shift _ _, List.nodup_range, ?_⟩
    intro a ha b hb e
    simp at ha hb
    omega
  · rw [List.map_append, List.map_append, List.map_map]
    congr 1
    · apply List.ext_getElem
      · simp
      · intro i h1 h2
        simp at h1
        simp [List.getElem?_append_right, h1]
    · apply List.ext_getElem
      · simp
      · intro i h1 h2
        simp at h1
        simp [List.getElem?_append_left, h1]

theorem Sat.star {w : World} {B L : List HP} (h : Sat oo w (B ++ L)) : Sat oo w (Star B :: L) := by
  have h1 : Sat oo w (L ++ B) := by
    refine h.sel ((List.range L.length).map (· + B.length) ++ List.range B.length) ?_ ?_
    · rw [List.nodup_append]
      refine ⟨nodup_shift _ _, List.nodup_range, ?_⟩
      intro a ha b hb e
      simp at ha hb
      omega
    · rw [List.map_append, List.map_append, List.map_map]
      congr 1
      · apply List.ext_getElem
        · simp
        · intro i h1 h2
          simp at h1
          simp [List.getElem?_append_right, h1]
      · apply List.ext_getElem
        · simp
        · intro i h1 h2
          simp at h1
          simp [List.getElem?_append_left, h1]
  refine h1.join.sel (L.length :: List.range L.length) ?_ ?_
  · rw [List.nodup_cons]
    exact ⟨by simp, List.nodup_range⟩
  · rw [List.map_cons, List.map_cons]
    congr 1
    · simp
    · apply List.ext_getElem
      · simp
      · intro i h1 h2
        simp at h1
        simp [List.getElem?_append_left, h1]

/-- A contract: pieces in, pieces out, whatever else there is. -/
def Ct (P : Program) (f : FuncId) (args : Array Value) (pre : List HP) (post : Value → List HP → Prop) : Prop :=
  ∀ oo w R, Sat oo w (pre ++ [R]) → Calls P f args w fun e w' => ∃ v ps, e = .returned v ∧ post v ps ∧ Sat oo w' (ps ++ [R])

theorem Ct.mono {P : Program} {f : FuncId} {args : Array Value} {pre : List HP} {post post' : Value → List HP → Prop} (h : Ct P f args pre post) (hp : ∀ v ps, post v ps → post' v ps) : Ct P f args pre post' :=
  fun oo w R hS => (h oo w R hS).mono fun e w' ⟨v, ps, he, hv, hs⟩ => ⟨v, ps, he, hp v ps hv, hs⟩

/-- The call of a contract in a memory of more pieces: 's' chooses what the contract takes, in its order; the rest stays. -/
theorem Ct.call {P : Program} {f : FuncId} {args : Array Value} {pre : List HP} {post : Value → List HP → Prop} (h : Ct P f args pre post) {w : World} {L : List HP} (hS : Sat oo w L)
    (s t : List Nat) {rest : List HP} (hn : (s ++ t).Nodup) (hs : s.map (fun i => L[i]?) = pre.map some) (ht : t.map (fun i => L[i]?) = rest.map some) :
    Calls P f args w fun e w' => ∃ v ps, e = .returned v ∧ post v ps ∧ Sat oo w' (ps ++ rest) := by
  have h1 : Sat oo w (pre ++ rest) := hS.sel (s ++ t) hn (by rw [List.map_append, List.map_append, hs, ht])
  exact (h oo w (Star rest) h1.join).mono fun e w' ⟨v, ps, he, hv, hs⟩ => ⟨v, ps, he, hv, hs.split⟩
end Go.Gx

/- What the reference queue tells, in words of the linked one. No program stands here but in the imports. -/
import Derived.Test.YtlicnplclfclcaaRqD
namespace Go.Proofs
open Go Go.Gx

theorem ratFrom_spec (id : Int) : ∀ (l : List RItem) (k : Int), (id ∉ l.map RItem.id ∧ ratFrom l id k = -1) ∨ ∃ (i : Nat) (hi : i < l.length), ratFrom l id k = k + i ∧ l[i].id = id := by
  intro l
  induction l with
  | nil => intro k; exact .inl ⟨by simp, rfl⟩
  | cons x l ih =>
    intro k
    simp only [ratFrom]
    by_cases h : x.id = id
    · rw [if_pos h]; exact .inr ⟨0, by simp, by simp, by simpa using h⟩
    · rw [if_neg h]
      rcases ih (k + 1) with ⟨h1, h2⟩ | ⟨i, hi, h1, h2⟩
      · refine .inl ⟨?_, h2⟩
        simp only [List.map_cons, List.mem_cons, not_or]
        exact ⟨fun e => h e.symm, h1⟩
      · exact .inr ⟨i + 1, by simp; omega, by omega, by simpa using h2⟩
theorem rat_spec (l : List RItem) (id : Int) : (id ∉ l.map RItem.id ∧ rat l id = -1) ∨ ∃ (i : Nat) (hi : i < l.length), rat l id = i ∧ l[i].id = id := by
  rcases ratFrom_spec id l 0 with h | ⟨i, hi, h1, h2⟩
  · exact .inl h
  · exact .inr ⟨i, hi, by unfold rat; omega, h2⟩
theorem rat_mem {l : List RItem} {id : Int} : 0 ≤ rat l id ↔ id ∈ l.map RItem.id := by
  rcases rat_spec l id with ⟨h1, h2⟩ | ⟨i, hi, h1, h2⟩
  · rw [h2]; simp only [h1, iff_false]; omega
  · rw [h1]; constructor
    · intro _; exact List.mem_map.2 ⟨l[i], List.getElem_mem _, h2⟩
    · intro _; omega
theorem rat_out {l : List RItem} (hn : (l.map RItem.id).Nodup) {id : Int} (h : 0 ≤ rat l id) : l.eraseIdx (rat l id).toNat = rWithout l id := by
  rcases rat_spec l id with ⟨h1, h2⟩ | ⟨i, hi, h1, h2⟩
  · omega
  · rw [h1, Int.toNat_natCast, List.eraseIdx_eq_take_drop_succ]
    have hl : l = l.take i ++ l[i] :: l.drop (i + 1) := by rw [← List.drop_eq_getElem_cons hi, List.take_append_drop]
    have hn' := hn
    rw [hl, List.map_append, List.map_cons, List.nodup_append, List.nodup_cons] at hn'
    obtain ⟨_, ⟨n1, _⟩, n2⟩ := hn'
    have hA : ∀ x ∈ l.take i, x.id ≠ id := fun x hx e => n2 x.id (List.mem_map.2 ⟨x, hx, rfl⟩) l[i].id (by simp) (e.trans h2.symm)
    have hB : ∀ x ∈ l.drop (i + 1), x.id ≠ id := fun x hx e => n1 (List.mem_map.2 ⟨x, hx, e.trans h2.symm⟩)
    have : rWithout l id = rWithout (l.take i ++ l[i] :: l.drop (i + 1)) id := by rw [← hl]
    rw [this]
    unfold rWithout
    rw [List.filter_append, List.filter_cons]
    simp only [h2, ne_eq, not_true, decide_false, Bool.false_eq_true, if_false]
    rw [List.filter_eq_self.2 (fun x hx => by simpa using hA x hx), List.filter_eq_self.2 (fun x hx => by simpa using hB x hx)]

theorem rat_get {l : List RItem} (hn : (l.map RItem.id).Nodup) {i : Nat} (hi : i < l.length) : rat l l[i].id = i := by
  rcases rat_spec l l[i].id with ⟨h1, _⟩ | ⟨j, hj, h1, h2⟩
  · exact absurd (List.mem_map.2 ⟨l[i], List.getElem_mem _, rfl⟩) h1
  · have : j = i := nodup_inj hn (by simpa using hj) (by simpa using hi) (by simpa using h2)
    rw [h1, this]

def Best (l : List RItem) (a lv : Int) : Prop := (l = [] ∧ a = -1) ∨ ∃ (i : Nat) (hi : i < l.length), a = i ∧ lv = l[i].lv ∧ ∀ (j : Nat) (hj : j < l.length), l[j].lv ≤ lv ∧ (j < i → l[j].lv < lv)
theorem Best.next {l : List RItem} {a lv : Int} (h : Best l a lv) (x : RItem) : Best (l ++ [x]) (if a < 0 ∨ x.lv > lv then l.length else a) (if a < 0 ∨ x.lv > lv then x.lv else lv) := by
  by_cases hc : a < 0 ∨ x.lv > lv
  · rw [if_pos hc, if_pos hc]
    refine .inr ⟨l.length, by simp, rfl, by simp, ?_⟩
    intro j hj
    simp only [List.length_append, List.length_singleton] at hj
    rcases h with ⟨rfl, _⟩ | ⟨i, hi, rfl, rfl, h⟩
    · simp at hj; subst hj; simp
    · have hc' : x.lv > l[i].lv := by omega
      by_cases e : j < l.length
      · rw [List.getElem_append_left e]
        have := (h j e).1
        exact ⟨by omega, fun _ => by omega⟩
      · have : j = l.length := by omega
        subst this
        simp
  · rw [if_neg hc, if_neg hc]
    rcases h with ⟨rfl, rfl⟩ | ⟨i, hi, rfl, rfl, h⟩
    · omega
    · refine .inr ⟨i, by simp; omega, rfl, by rw [List.getElem_append_left hi], ?_⟩
      intro j hj
      simp only [List.length_append, List.length_singleton] at hj
      by_cases e : j < l.length
      · rw [List.getElem_append_left e]; exact h j e
      · have : j = l.length := by omega
        subst this
        simp only [List.getElem_concat_length]
        exact ⟨by omega, fun _ => by omega⟩
theorem rtopFrom_spec : ∀ (l pre : List RItem) (a lv : Int), Best pre a lv → ∃ lv', Best (pre ++ l) (rtopFrom l pre.length a lv) lv' := by
  intro l
  induction l with
  | nil => intro pre a lv h; exact ⟨lv, by simpa [rtopFrom] using h⟩
  | cons x l ih =>
    intro pre a lv h
    have hb := h.next x
    simp only [rtopFrom]
    have e : pre ++ x :: l = (pre ++ [x]) ++ l := by simp
    rw [e]
    by_cases hc : a < 0 ∨ x.lv > lv
    · rw [if_pos hc] at hb ⊢
      rw [if_pos hc] at hb
      have := ih (pre ++ [x]) _ _ hb
      simpa using this
    · rw [if_neg hc] at hb ⊢
      rw [if_neg hc] at hb
      have := ih (pre ++ [x]) _ _ hb
      simpa using this
theorem rtop_spec (l : List RItem) : (l = [] ∧ rtop l = -1) ∨ ∃ (i : Nat) (hi : i < l.length), rtop l = i ∧ ∀ (j : Nat) (hj : j < l.length), l[j].lv ≤ l[i].lv ∧ (j < i → l[j].lv < l[i].lv) := by
  obtain ⟨lv, h⟩ := rtopFrom_spec l [] (-1) 0 (.inl ⟨rfl, rfl⟩)
  simp only [List.nil_append, List.length_nil] at h
  rcases h with ⟨h1, h2⟩ | ⟨i, hi, h1, rfl, h2⟩
  · exact .inl ⟨h1, h2⟩
  · exact .inr ⟨i, hi, h1, h2⟩

/-- Level and first id of what is on top, by the flags. -/
theorem rTop_hi {l : List RItem} {m : Int → Bool} {x : Int} (hx : IsHi m x) (hm : ∀ v, 0 ≤ v → v ≤ 255 → (m v = true ↔ rIds l v ≠ [])) (hr : ∀ y ∈ l, 0 ≤ y.lv ∧ y.lv ≤ 255) :
    (x < 0 → l = [] ∧ rtop l = -1) ∧ (0 ≤ x → 0 ≤ rtop l ∧ x ≤ 255 ∧ (rget l (rtop l)).lv = x ∧ (rIds l x).headD (-1) = (rget l (rtop l)).id ∧ rIds l x ≠ []) := by
  rcases rtop_spec l with ⟨rfl, h2⟩ | ⟨i, hi, h1, h2⟩
  · refine ⟨fun _ => ⟨rfl, h2⟩, fun h0 => ?_⟩
    rcases hx.1 with h | ⟨a, b, c⟩
    · omega
    · exact absurd rfl ((hm x a b).1 c)
  · have hmem : l[i] ∈ l := List.getElem_mem _
    have hlv := hr _ hmem
    have hin : rIds l l[i].lv ≠ [] := fun e => by
      have : l[i].id ∈ rIds l l[i].lv := mem_rIds.2 ⟨l[i], hmem, rfl, rfl⟩
      rw [e] at this; cases this
    have hix : IsHi m l[i].lv := by
      refine ⟨.inr ⟨hlv.1, hlv.2, (hm _ hlv.1 hlv.2).2 hin⟩, fun v g0 g1 g2 => ?_⟩
      have : ¬ m v = true := fun e => by
        have hne := (hm v g1 g2).1 e
        obtain ⟨y, hy, hyv, _⟩ := mem_rIds.1 (head_mem hne)
        obtain ⟨j, hj, rfl⟩ := List.getElem_of_mem hy
        have := (h2 j hj).1
        omega
      simpa using this
    have := hx.uniq hix
    subst this
    refine ⟨fun h => by omega, fun _ => ?_⟩
    have hg : rget l (rtop l) = l[i] := by
      rw [h1]; unfold rget; simp [hi]
    rw [hg]
    refine ⟨by omega, hlv.2, rfl, ?_, hin⟩
    have hl : l = l.take i ++ l[i] :: l.drop (i + 1) := by rw [← List.drop_eq_getElem_cons hi, List.take_append_drop]
    have hA : ∀ y ∈ l.take i, ¬ y.lv = l[i].lv := fun y hy e => by
      obtain ⟨j, hj, rfl⟩ := List.getElem_of_mem hy
      simp only [List.length_take] at hj
      have := (h2 j (by omega)).2 (by omega)
      rw [List.getElem_take] at e
      omega
    have : rIds l l[i].lv = rIds (l.take i ++ l[i] :: l.drop (i + 1)) l[i].lv := by rw [← hl]
    rw [this]
    unfold rIds
    rw [List.filter_append, List.filter_eq_nil_iff.2 (fun y hy => by simpa using hA y hy), List.filter_cons]
    simp
end Go.Proofs

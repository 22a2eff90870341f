/- The queue of levels as numbers: its state, what stands in its cells, and that Push and Remove keep what it stands for. No program stands here. -/
import Derived.Test.YtlicnplclfclcaaBit
namespace Go.Proofs
open Go Go.Gx

structure RItem where
  id : Int
  lv : Int
def RItem.cells (x : RItem) : List Value := [.int .i64 x.id, .int .u8 x.lv]
def rIds (l : List RItem) (lv : Int) : List Int := (l.filter (fun x => decide (x.lv = lv))).map RItem.id

theorem last_snoc (X : List Int) (e d : Int) : (X ++ [e]).getLastD d = e := by simp

structure BQ where
  ahead : Int → Int
  behind : Int → Int
  lv : Int → Int
  there : Int → Bool
  first : Int → Int
  last : Int → Int
  mask : Int → Bool
  many : Int

/-- A run of linked ids: what stands ahead of the first, what behind the last. -/
def Seg (q : BQ) : Int → List Int → Int → Prop
  | _, [], _ => True
  | p, a :: t, nx => q.ahead a = p ∧ q.behind a = t.headD nx ∧ Seg q a t nx

theorem Seg.congr {q q' : BQ} : ∀ {s : List Int} {p nx : Int}, (∀ a ∈ s, q'.ahead a = q.ahead a ∧ q'.behind a = q.behind a) → Seg q p s nx → Seg q' p s nx
  | [], _, _, _, _ => trivial
  | a :: t, p, nx, h, ⟨h1, h2, h3⟩ => by
    obtain ⟨g1, g2⟩ := h a (by simp)
    exact ⟨g1.trans h1, g2.trans h2, Seg.congr (fun b hb => h b (by simp [hb])) h3⟩

theorem Seg.append {q : BQ} : ∀ {A B : List Int} {p nx : Int}, Seg q p (A ++ B) nx ↔ Seg q p A (B.headD nx) ∧ Seg q (A.getLastD p) B nx
  | [], B, p, nx => by simp [Seg]
  | a :: A, B, p, nx => by
    have ih := Seg.append (q := q) (A := A) (B := B) (p := a) (nx := nx)
    simp only [List.cons_append, Seg, ih]
    have h1 : (A ++ B).headD nx = A.headD (B.headD nx) := by cases A <;> simp
    have h2 : (a :: A).getLastD p = A.getLastD a := by cases A <;> simp [List.getLastD]
    rw [h1, h2]
    constructor
    · rintro ⟨a1, a2, a3, a4⟩; exact ⟨⟨a1, a2, a3⟩, a4⟩
    · rintro ⟨⟨a1, a2, a3⟩, a4⟩; exact ⟨a1, a2, a3, a4⟩

/-- Another id behind the last one. -/
theorem Seg.next {q q' : BQ} {s : List Int} {p nx nx' : Int} (h : Seg q p s nx) (hnd : s.Nodup) (ha : ∀ a ∈ s, q'.ahead a = q.ahead a) (hb : ∀ a ∈ s, a ≠ s.getLastD p → q'.behind a = q.behind a) (hl : s ≠ [] → q'.behind (s.getLastD p) = nx') : Seg q' p s nx' := by
  rcases List.eq_nil_or_concat s with rfl | ⟨t, e, rfl⟩
  · trivial
  · rw [List.concat_eq_append] at *
    have hlast : (t ++ [e]).getLastD p = e := by simp
    rw [hlast] at hb hl
    obtain ⟨h1, h2⟩ := Seg.append.1 h
    have hne : ∀ a ∈ t, a ≠ e := fun a hat hae => by
      rw [List.nodup_append] at hnd
      exact hnd.2.2 a hat e (by simp) hae
    refine Seg.append.2 ⟨?_, ?_⟩
    · exact h1.congr fun a hat => ⟨ha a (by simp [hat]), hb a (by simp [hat]) (hne a hat)⟩
    · obtain ⟨g1, g2, g3⟩ := h2
      exact ⟨(ha e (by simp)).trans g1, by simpa using hl (by simp), trivial⟩

/-- Another id ahead of the first one. -/
theorem Seg.prev {q q' : BQ} {s : List Int} {p p' nx : Int} (h : Seg q p s nx) (hnd : s.Nodup) (hb : ∀ a ∈ s, q'.behind a = q.behind a) (ha : ∀ a ∈ s, a ≠ s.headD nx → q'.ahead a = q.ahead a) (hl : s ≠ [] → q'.ahead (s.headD nx) = p') : Seg q' p' s nx := by
  cases s with
  | nil => trivial
  | cons a t =>
    obtain ⟨h1, h2, h3⟩ := h
    refine ⟨by simpa using hl (by simp), (hb a (by simp)).trans h2, h3.congr fun b hbt => ⟨ha b (by simp [hbt]) ?_, hb b (by simp [hbt])⟩⟩
    intro e
    simp at e
    subst e
    simp at hnd
    exact hnd.1 hbt

structure RI (q : BQ) (n : Nat) (l : List RItem) : Prop where
  nodup : (l.map RItem.id).Nodup
  range : ∀ x ∈ l, (0 ≤ x.id ∧ x.id < n) ∧ (0 ≤ x.lv ∧ x.lv ≤ 255)
  there : ∀ i : Int, 0 ≤ i → i < n → (q.there i = true ↔ i ∈ l.map RItem.id)
  level : ∀ x ∈ l, q.lv x.id = x.lv
  seg : ∀ v, 0 ≤ v → v ≤ 255 → Seg q (-1) (rIds l v) (-1) ∧ q.first v = (rIds l v).headD (-1) ∧ q.last v = (rIds l v).getLastD (-1)
  mask : ∀ v, 0 ≤ v → v ≤ 255 → (q.mask v = true ↔ rIds l v ≠ [])
  many : q.many = l.length

theorem mem_rIds {l : List RItem} {v a : Int} : a ∈ rIds l v ↔ ∃ x ∈ l, x.lv = v ∧ x.id = a := by
  simp [rIds, and_assoc]
theorem rIds_nodup {l : List RItem} (h : (l.map RItem.id).Nodup) (v : Int) : (rIds l v).Nodup := by
  unfold rIds
  exact (List.Sublist.map RItem.id (List.filter_sublist (l := l))).nodup h
theorem id_inj {l : List RItem} (h : (l.map RItem.id).Nodup) {x y : RItem} (hx : x ∈ l) (hy : y ∈ l) (e : x.id = y.id) : x = y := by
  obtain ⟨i, hi, rfl⟩ := List.getElem_of_mem hx
  obtain ⟨j, hj, rfl⟩ := List.getElem_of_mem hy
  have : i = j := nodup_inj h (by simpa using hi) (by simpa using hj) (by simpa using e)
  subst this
  rfl
theorem rIds_apart {l : List RItem} (h : (l.map RItem.id).Nodup) {u v a : Int} (hu : a ∈ rIds l u) (hv : a ∈ rIds l v) : u = v := by
  obtain ⟨x, hx, hxu, hxa⟩ := mem_rIds.1 hu
  obtain ⟨y, hy, hyv, hya⟩ := mem_rIds.1 hv
  have := id_inj h hx hy (hxa.trans hya.symm)
  subst this
  omega
theorem rIds_snoc (l : List RItem) (x : RItem) (v : Int) : rIds (l ++ [x]) v = rIds l v ++ (if x.lv = v then [x.id] else []) := by
  unfold rIds
  rw [List.filter_append, List.map_append]
  by_cases h : x.lv = v <;> simp [h]

/-- Push. -/
def BQ.push (q : BQ) (v id : Int) : BQ where
  ahead := upd q.ahead id (q.last v)
  behind := if q.last v = -1 then upd q.behind id (-1) else upd (upd q.behind id (-1)) (q.last v) id
  lv := upd q.lv id v
  there := upd q.there id true
  first := if q.last v = -1 then upd q.first v id else q.first
  last := upd q.last v id
  mask := if q.last v = -1 then upd q.mask v true else q.mask
  many := q.many + 1

theorem last_mem {l : List RItem} {v : Int} (h : rIds l v ≠ []) : (rIds l v).getLastD (-1) ∈ rIds l v := by
  rcases List.eq_nil_or_concat (rIds l v) with h0 | ⟨t, e, h0⟩
  · exact absurd h0 h
  · rw [h0]; simp
theorem head_mem {l : List RItem} {v : Int} (h : rIds l v ≠ []) : (rIds l v).headD (-1) ∈ rIds l v := by
  cases h0 : rIds l v with
  | nil => exact absurd h0 h
  | cons a t => simp

theorem RI.ids_nonneg {q : BQ} {n : Nat} {l : List RItem} (h : RI q n l) {v a : Int} (ha : a ∈ rIds l v) : 0 ≤ a ∧ a < n := by
  obtain ⟨x, hx, _, rfl⟩ := mem_rIds.1 ha
  exact (h.range x hx).1
theorem RI.lastEmpty {q : BQ} {n : Nat} {l : List RItem} (h : RI q n l) {v : Int} (h0 : 0 ≤ v) (h1 : v ≤ 255) : q.last v = -1 ↔ rIds l v = [] := by
  obtain ⟨_, _, h2⟩ := h.seg v h0 h1
  constructor
  · intro e
    rcases Classical.em (rIds l v = []) with h3 | h3
    · exact h3
    · have := (h.ids_nonneg (last_mem h3)).1
      omega
  · intro e; rw [h2, e]; rfl

theorem RI.push {q : BQ} {n : Nat} {l : List RItem} (h : RI q n l) {v id : Int} (h0 : 0 ≤ v) (h1 : v ≤ 255) (hi0 : 0 ≤ id) (hi1 : id < n) (hnew : id ∉ l.map RItem.id) : RI (q.push v id) n (l ++ [⟨id, v⟩]) := by
  have hnotin : ∀ u, id ∉ rIds l u := fun u hu => by
    obtain ⟨x, hx, _, hxa⟩ := mem_rIds.1 hu
    exact hnew (List.mem_map.2 ⟨x, hx, hxa⟩)
  have hemp := h.lastEmpty h0 h1
  have hahead : (q.push v id).ahead = upd q.ahead id (q.last v) := rfl
  have hbeh : (q.push v id).behind = if q.last v = -1 then upd q.behind id (-1) else upd (upd q.behind id (-1)) (q.last v) id := rfl
  have hbehind : ∀ a, a ≠ id → (a ≠ q.last v ∨ q.last v = -1) → (q.push v id).behind a = q.behind a := fun a ha hl => by
    rw [hbeh]
    split
    · exact upd_ne _ _ ha
    · rename_i hne
      rw [upd_ne _ _ (hl.resolve_right hne), upd_ne _ _ ha]
  have hfirst : ∀ u, (q.push v id).first u = if q.last v = -1 then upd q.first v id u else q.first u := fun u => by
    show (if _ then _ else _ : Int → Int) u = _
    split <;> rfl
  have hlast : (q.push v id).last = upd q.last v id := rfl
  have hmask : ∀ u, (q.push v id).mask u = if q.last v = -1 then upd q.mask v true u else q.mask u := fun u => by
    show (if _ then _ else _ : Int → Bool) u = _
    split <;> rfl
  refine ⟨?_, ?_, ?_, ?_, ?_, ?_, ?_⟩
  · rw [List.map_append, List.nodup_append]
    refine ⟨h.nodup, by simp, ?_⟩
    intro a ha b hb e
    simp at hb
    subst hb e
    exact hnew ha
  · intro x hx
    rcases List.mem_append.1 hx with hx | hx
    · exact h.range x hx
    · simp at hx; subst hx; exact ⟨⟨hi0, hi1⟩, h0, h1⟩
  · intro i g0 g1
    have : (q.push v id).there = upd q.there id true := rfl
    rw [this, List.map_append, List.mem_append]
    by_cases e : i = id
    · subst e; simp [upd_same]
    · rw [upd_ne _ _ e, h.there i g0 g1]; simp [e]
  · intro x hx
    have : (q.push v id).lv = upd q.lv id v := rfl
    rw [this]
    rcases List.mem_append.1 hx with hx | hx
    · have hne : x.id ≠ id := fun e => hnew (List.mem_map.2 ⟨x, hx, e⟩)
      rw [upd_ne _ _ hne]; exact h.level x hx
    · simp at hx; subst hx; exact upd_same _ _ _
  · intro u g0 g1
    obtain ⟨s1, s2, s3⟩ := h.seg u g0 g1
    rw [rIds_snoc, hlast, hfirst]
    by_cases huv : v = u
    · subst huv
      simp only [if_true, upd_same]
      have hnd := rIds_nodup h.nodup v
      by_cases hne : rIds l v = []
      · have hl := hemp.2 hne
        rw [hne, if_pos hl]
        refine ⟨?_, by simp [], by simp⟩
        refine ⟨by rw [hahead, upd_same, hl], ?_, trivial⟩
        show (q.push v id).behind id = -1
        rw [hbeh, if_pos hl]
        exact upd_same _ _ _
      · have hl : ¬ q.last v = -1 := fun e => hne (hemp.1 e)
        have hlm := last_mem hne
        rw [if_neg hl]
        refine ⟨?_, ?_, by simp⟩
        · refine Seg.append.2 ⟨?_, ?_⟩
          · refine s1.next hnd (fun a ha => ?_) (fun a ha hal => ?_) (fun _ => ?_)
            · rw [hahead]; exact upd_ne _ _ fun e => hnotin v (e ▸ ha)
            · exact hbehind a (fun e => hnotin v (e ▸ ha)) (.inl (by rw [s3]; exact hal))
            · show (q.push v id).behind _ = id
              rw [← s3]
              rw [hbeh, if_neg hl]
              exact upd_same _ _ _
          · refine ⟨by rw [hahead, upd_same, s3], ?_, trivial⟩
            show (q.push v id).behind id = -1
            have hid : id ≠ q.last v := fun e => hnotin v (by rw [e, s3]; exact hlm)
            rw [hbeh, if_neg hl]
            rw [upd_ne _ _ hid, upd_same]
        · rw [s2]
          cases hr : rIds l v with
          | nil => exact absurd hr hne
          | cons a t => simp
    · simp only [huv, if_false, List.append_nil]
      have huv' : u ≠ v := fun e => huv e.symm
      rw [upd_ne q.last _ huv']
      have hl : ∀ a ∈ rIds l u, a ≠ q.last v ∨ q.last v = -1 := fun a ha => by
        by_cases e : q.last v = -1
        · exact .inr e
        · refine .inl fun e2 => ?_
          have hne : rIds l v ≠ [] := fun h3 => e (hemp.2 h3)
          have hlm := last_mem hne
          obtain ⟨_, _, s3'⟩ := h.seg v h0 h1
          rw [← s3', ← e2] at hlm
          exact huv' (rIds_apart h.nodup ha hlm)
      refine ⟨s1.congr fun a ha => ⟨?_, hbehind a (fun e => hnotin u (e ▸ ha)) (hl a ha)⟩, ?_, s3⟩
      · rw [hahead]; exact upd_ne _ _ fun e => hnotin u (e ▸ ha)
      · split
        · rw [upd_ne _ _ huv']; exact s2
        · exact s2
  · intro u g0 g1
    rw [rIds_snoc, hmask]
    by_cases huv : v = u
    · subst huv
      simp only [if_true]
      have hr : rIds l v ++ [id] ≠ [] := by simp
      simp only [hr, not_false_eq_true, iff_true, ne_eq]
      split
      · exact upd_same _ _ _
      · rename_i hl
        exact (h.mask v h0 h1).2 fun h3 => hl (hemp.2 h3)
    · have huv' : u ≠ v := fun e => huv e.symm
      simp only [huv, if_false, List.append_nil]
      rw [← h.mask u g0 g1]
      split
      · rw [upd_ne _ _ huv']
      · rfl
  · have : (q.push v id).many = q.many + 1 := rfl
    rw [this, h.many]; simp

/-- Remove. -/
def BQ.rem (q : BQ) (id : Int) : BQ where
  ahead := upd (if q.behind id = -1 then q.ahead else upd q.ahead (q.behind id) (q.ahead id)) id 0
  behind := upd (if q.ahead id = -1 then q.behind else upd q.behind (q.ahead id) (q.behind id)) id 0
  lv := upd q.lv id 0
  there := upd q.there id false
  first := if q.ahead id = -1 then upd q.first (q.lv id) (q.behind id) else q.first
  last := if q.behind id = -1 then upd q.last (q.lv id) (q.ahead id) else q.last
  mask := if (if q.ahead id = -1 then upd q.first (q.lv id) (q.behind id) else q.first) (q.lv id) = -1 then upd q.mask (q.lv id) false else q.mask
  many := q.many - 1

def rWithout (l : List RItem) (id : Int) : List RItem := l.filter (fun x => decide (x.id ≠ id))
theorem rIds_without (l : List RItem) (id v : Int) : rIds (rWithout l id) v = (rIds l v).filter (fun a => decide (a ≠ id)) := by
  unfold rIds rWithout
  rw [List.filter_filter, List.filter_map, List.filter_filter]
  congr 1
  apply List.filter_congr
  intro x _
  simp [Function.comp, Bool.and_comm]
theorem RI.lenLe {q : BQ} {n : Nat} {l : List RItem} (h : RI q n l) : l.length ≤ n := by
  have := nodup_bound n (l.map RItem.id) h.nodup (fun a ha => by
    obtain ⟨x, hx, rfl⟩ := List.mem_map.1 ha
    exact (h.range x hx).1)
  simpa using this

theorem one_of {α : Type} {l : List α} {y : α} (hn : l.Nodup) (hy : y ∈ l) (h : ∀ x ∈ l, x = y) : l = [y] := by
  match l, hn, hy, h with
  | [], _, hy, _ => simp at hy
  | [a], _, _, h => rw [h a (by simp)]
  | a :: b :: t, hn, _, h =>
    have e2 : a = b := (h a (by simp)).trans (h b (by simp)).symm
    subst e2
    simp at hn

theorem RI.rem {q : BQ} {n : Nat} {l : List RItem} (h : RI q n l) {y : RItem} (hy : y ∈ l) : RI (q.rem y.id) n (rWithout l y.id) := by
  obtain ⟨⟨hid0, hid1⟩, h0, h1⟩ := h.range y hy
  have hlv := h.level y hy
  generalize hid : y.id = id at *
  generalize hv : y.lv = v at *
  have hmem : id ∈ rIds l v := mem_rIds.2 ⟨y, hy, hv, hid⟩
  have hnd := rIds_nodup h.nodup v
  obtain ⟨A, B, hAB⟩ := List.append_of_mem hmem
  obtain ⟨s1, s2, s3⟩ := h.seg v h0 h1
  have hnn : ∀ a ∈ rIds l v, 0 ≤ a := fun a ha => (h.ids_nonneg ha).1
  have hfl := filter_ne_split (hAB ▸ hnd)
  rw [hAB] at s1 s2 s3 hnn
  have hndAB := hnd
  rw [hAB] at hndAB
  obtain ⟨t1, t2⟩ := Seg.append.1 s1
  obtain ⟨ha, hb, t3⟩ := t2
  simp only [List.headD_cons] at t1
  have hnda : A.Nodup := (List.nodup_append.1 hndAB).1
  have hndb : B.Nodup := (List.nodup_cons.1 (List.nodup_append.1 hndAB).2.1).2
  have hidA : id ∉ A := fun hm => (List.nodup_append.1 hndAB).2.2 id hm id (by simp) rfl
  have hidB : id ∉ B := (List.nodup_cons.1 (List.nodup_append.1 hndAB).2.1).1
  have hAB' : ∀ a ∈ A, a ∉ B := fun a haA haB => (List.nodup_append.1 hndAB).2.2 a haA a (by simp [haB]) rfl
  have hae : q.ahead id = -1 ↔ A = [] := by
    rw [ha]
    constructor
    · intro e
      rcases List.eq_nil_or_concat A with h3 | ⟨t, e2, h3⟩
      · exact h3
      · subst h3
        simp at e
        have := hnn e2 (by simp)
        omega
    · rintro rfl; rfl
  have hbe : q.behind id = -1 ↔ B = [] := by
    rw [hb]
    constructor
    · intro e
      cases B with
      | nil => rfl
      | cons b t =>
        simp at e
        have := hnn b (by simp)
        omega
    · rintro rfl; rfl
  have lastA : A ≠ [] → A.getLastD (-1) ∈ A := fun hne => by
    rcases List.eq_nil_or_concat A with h3 | ⟨t, e2, h3⟩
    · exact absurd h3 hne
    · subst h3; simp
  have headB : B ≠ [] → B.headD (-1) ∈ B := fun hne => by
    cases B with
    | nil => exact absurd rfl hne
    | cons b t => simp
  -- the parts of the new state
  have nAhead : ∀ a, a ≠ id → (q.rem id).ahead a = if q.behind id = -1 then q.ahead a else upd q.ahead (q.behind id) (q.ahead id) a := fun a hne => by
    show upd _ id 0 a = _
    rw [upd_ne _ _ hne]
    split <;> rfl
  have nBehind : ∀ a, a ≠ id → (q.rem id).behind a = if q.ahead id = -1 then q.behind a else upd q.behind (q.ahead id) (q.behind id) a := fun a hne => by
    show upd _ id 0 a = _
    rw [upd_ne _ _ hne]
    split <;> rfl
  have nFirst : (q.rem id).first = if q.ahead id = -1 then upd q.first (q.lv id) (q.behind id) else q.first := rfl
  have nLast : (q.rem id).last = if q.behind id = -1 then upd q.last (q.lv id) (q.ahead id) else q.last := rfl
  have nMask : ∀ u, (q.rem id).mask u = if (q.rem id).first (q.lv id) = -1 then upd q.mask (q.lv id) false u else q.mask u := fun u => by
    show (if (if q.ahead id = -1 then upd q.first (q.lv id) (q.behind id) else q.first) (q.lv id) = -1 then upd q.mask (q.lv id) false else q.mask) u = if (if q.ahead id = -1 then upd q.first (q.lv id) (q.behind id) else q.first) (q.lv id) = -1 then upd q.mask (q.lv id) false u else q.mask u
    exact apply_ite (fun f : Int → Bool => f u) _ _ _
  have nThere : (q.rem id).there = upd q.there id false := rfl
  have nLv : (q.rem id).lv = upd q.lv id 0 := rfl
  have nMany : (q.rem id).many = q.many - 1 := rfl
  have hsub : ∀ x, x ∈ rWithout l id ↔ x ∈ l ∧ x.id ≠ id := fun x => by simp [rWithout]
  have notin : ∀ u, u ≠ v → id ∉ rIds l u := fun u hu hm => hu (rIds_apart h.nodup hm hmem)
  -- the run of this level
  have hsegv : Seg (q.rem id) (-1) (A ++ B) (-1) := by
    refine Seg.append.2 ⟨?_, ?_⟩
    · refine t1.next hnda (fun a haA => ?_) (fun a haA hal => ?_) (fun hne => ?_)
      · rw [nAhead a (fun e => hidA (e ▸ haA))]
        split
        · rfl
        · rename_i e2
          refine upd_ne _ _ fun e => ?_
          have hBne : B ≠ [] := fun h3 => e2 (hbe.2 h3)
          exact hAB' a haA (by rw [e, hb]; exact headB hBne)
      · rw [nBehind a (fun e => hidA (e ▸ haA))]
        split
        · rfl
        · exact upd_ne _ _ fun e => hal (by rw [e, ha])
      · have hal := lastA hne
        rw [nBehind _ (fun e => hidA (e ▸ hal)), if_neg (fun e => hne (hae.1 e)), ← ha, upd_same, hb]
    · refine t3.prev hndb (fun a haB => ?_) (fun a haB hah => ?_) (fun hne => ?_)
      · rw [nBehind a (fun e => hidB (e ▸ haB))]
        split
        · rfl
        · rename_i e1
          refine upd_ne _ _ fun e => ?_
          have hAne : A ≠ [] := fun h3 => e1 (hae.2 h3)
          exact hAB' a (by rw [e, ha]; exact lastA hAne) haB
      · rw [nAhead a (fun e => hidB (e ▸ haB))]
        split
        · rfl
        · exact upd_ne _ _ fun e => hah (by rw [e, hb])
      · have hbh := headB hne
        rw [nAhead _ (fun e => hidB (e ▸ hbh)), if_neg (fun e => hne (hbe.1 e)), ← hb, upd_same, ha]
  have hfirstv : (q.rem id).first v = (A ++ B).headD (-1) := by
    rw [nFirst, hlv]
    by_cases e : A = []
    · subst e; rw [if_pos (hae.2 rfl), upd_same, hb]; rfl
    · rw [if_neg (fun e1 => e (hae.1 e1)), s2]
      cases A with
      | nil => exact absurd rfl e
      | cons a t => rfl
  have hlastv : (q.rem id).last v = (A ++ B).getLastD (-1) := by
    rw [nLast, hlv]
    by_cases e : B = []
    · subst e; rw [if_pos (hbe.2 rfl), upd_same, ha, List.append_nil]
    · rw [if_neg (fun e1 => e (hbe.1 e1)), s3]
      rcases List.eq_nil_or_concat B with h3 | ⟨t, e2, h3⟩
      · exact absurd h3 e
      · subst h3
        rw [List.concat_eq_append, show A ++ id :: (t ++ [e2]) = (A ++ id :: t) ++ [e2] by simp, last_snoc, ← List.append_assoc, last_snoc]
  have hBnn : (A ++ B).headD (-1) = -1 ↔ A ++ B = [] := by
    cases hc : A ++ B with
    | nil => simp
    | cons c t =>
      have : c ∈ A ++ B := by rw [hc]; simp
      have hc0 : 0 ≤ c := by
        rcases List.mem_append.1 this with h3 | h3
        · exact hnn c (by simp [h3])
        · exact hnn c (by simp [h3])
      simp
      omega
  refine ⟨?_, ?_, ?_, ?_, ?_, ?_, ?_⟩
  · exact (List.Sublist.map RItem.id (List.filter_sublist (l := l))).nodup h.nodup
  · intro x hx
    exact h.range x ((hsub x).1 hx).1
  · intro i g0 g1
    rw [nThere]
    by_cases e : i = id
    · subst e
      simp only [upd_same, Bool.false_eq_true, List.mem_map, hsub, false_iff, not_exists, not_and, and_imp]
      exact fun x _ hne e => hne e
    · rw [upd_ne _ _ e, h.there i g0 g1]
      simp only [List.mem_map, hsub]
      constructor
      · rintro ⟨x, hx, rfl⟩; exact ⟨x, ⟨hx, e⟩, rfl⟩
      · rintro ⟨x, ⟨hx, _⟩, rfl⟩; exact ⟨x, hx, rfl⟩
  · intro x hx
    obtain ⟨hxl, hne⟩ := (hsub x).1 hx
    rw [nLv, upd_ne _ _ hne]
    exact h.level x hxl
  · intro u g0 g1
    rw [rIds_without]
    by_cases huv : u = v
    · subst huv
      rw [hAB, hfl]
      exact ⟨hsegv, hfirstv, hlastv⟩
    · have hni := notin u huv
      rw [filter_ne_of_notin hni]
      obtain ⟨u1, u2, u3⟩ := h.seg u g0 g1
      refine ⟨u1.congr fun a hau => ⟨?_, ?_⟩, ?_, ?_⟩
      · rw [nAhead a (fun e => hni (e ▸ hau))]
        split
        · rfl
        · rename_i e2
          refine upd_ne _ _ fun e => ?_
          have hBne : B ≠ [] := fun h3 => e2 (hbe.2 h3)
          refine huv (rIds_apart h.nodup hau ?_)
          rw [hAB, e, hb]; exact List.mem_append_right _ (List.mem_cons_of_mem _ (headB hBne))
      · rw [nBehind a (fun e => hni (e ▸ hau))]
        split
        · rfl
        · rename_i e1
          refine upd_ne _ _ fun e => ?_
          have hAne : A ≠ [] := fun h3 => e1 (hae.2 h3)
          refine huv (rIds_apart h.nodup hau ?_)
          rw [hAB, e, ha]; exact List.mem_append_left _ (lastA hAne)
      · rw [nFirst, hlv]
        split
        · rw [upd_ne _ _ huv]; exact u2
        · exact u2
      · rw [nLast, hlv]
        split
        · rw [upd_ne _ _ huv]; exact u3
        · exact u3
  · intro u g0 g1
    rw [rIds_without, nMask, hlv, hfirstv]
    by_cases huv : u = v
    · subst huv
      rw [hAB, hfl]
      split
      · rename_i e; rw [upd_same, hBnn.1 e]; simp
      · rename_i e
        rw [hBnn] at e
        simp only [ne_eq, e, not_false_eq_true, iff_true]
        exact (h.mask u g0 g1).2 (by rw [hAB]; simp)
    · rw [filter_ne_of_notin (notin u huv), ← h.mask u g0 g1]
      split
      · rw [upd_ne _ _ huv]
      · rfl
  · rw [nMany, h.many]
    have : (rWithout l id).length + 1 = l.length := by
      have hc : l.length = (rWithout l id).length + (l.filter (fun x => !decide (x.id ≠ id))).length := by
        rw [rWithout, ← List.countP_eq_length_filter, ← List.countP_eq_length_filter]
        have := List.length_eq_countP_add_countP (fun x : RItem => decide (x.id ≠ id)) (l := l)
        simpa using this
      have h1 : (l.filter (fun x => !decide (x.id ≠ id))).length = 1 := by
        have e1 : l.filter (fun x => !decide (x.id ≠ id)) = [y] := by
          have hin : ∀ x ∈ l.filter (fun x => !decide (x.id ≠ id)), x = y := fun x hx => by
            simp at hx
            exact id_inj h.nodup hx.1 hy (hx.2.trans hid.symm)
          have hyin : y ∈ l.filter (fun x => !decide (x.id ≠ id)) := by simp [hy, hid]
          have hnd2 : (l.filter (fun x => !decide (x.id ≠ id))).Nodup := by
            have : ((l.filter (fun x => !decide (x.id ≠ id))).map RItem.id).Nodup := (List.Sublist.map RItem.id (List.filter_sublist (l := l))).nodup h.nodup
            exact List.Pairwise.of_map _ (fun a b hab e => hab (by rw [e])) this
          exact one_of hnd2 hyin hin
        rw [e1]; rfl
      omega
    omega
end Go.Proofs

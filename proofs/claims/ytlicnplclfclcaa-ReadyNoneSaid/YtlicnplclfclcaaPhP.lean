/- The heap of deadlines as numbers and trees: what its links stand for, and that putting together, cutting and gathering keep it. No program stands here. -/
import Derived.Test.YtlicnplclfclcaaTab
namespace Go.Proofs
open Go Go.Gx

structure PItem where
  id : Int
  dl : Int
  sq : Int
def PItem.lt (a b : PItem) : Prop := a.dl < b.dl ∨ (a.dl = b.dl ∧ (a.sq < b.sq ∨ (a.sq = b.sq ∧ a.id < b.id)))
instance (a b : PItem) : Decidable (PItem.lt a b) := inferInstanceAs (Decidable (a.dl < b.dl ∨ (a.dl = b.dl ∧ (a.sq < b.sq ∨ (a.sq = b.sq ∧ a.id < b.id)))))
theorem PItem.lt.trans {a b c : PItem} (h : PItem.lt a b) (g : PItem.lt b c) : PItem.lt a c := by
  unfold PItem.lt at *; omega
theorem PItem.lt_irrefl {a : PItem} : ¬ PItem.lt a a := by
  unfold PItem.lt; omega
theorem PItem.lt.asymm {a b : PItem} (h : PItem.lt a b) : ¬ PItem.lt b a := fun g => PItem.lt_irrefl (h.trans g)
theorem PItem.lt_total {a b : PItem} (h : a.id ≠ b.id) : PItem.lt a b ∨ PItem.lt b a := by
  unfold PItem.lt; omega

structure PH where
  dl : Int → Int
  sq : Int → Int
  child : Int → Int
  next : Int → Int
  prev : Int → Int
  there : Int → Bool
def PH.it (f : PH) (i : Int) : PItem := ⟨i, f.dl i, f.sq i⟩

inductive BT where
  | nil : BT
  | node (id : Int) (c n : BT) : BT
def BT.ids : BT → List Int
  | .nil => []
  | .node i c n => i :: (c.ids ++ n.ids)
def BT.root : BT → Int
  | .nil => -1
  | .node i _ _ => i
def BT.single : BT → Prop
  | .node _ _ (.node _ _ _) => False
  | _ => True
def Rep (f : PH) : Int → BT → Prop
  | _, .nil => True
  | p, .node i c n => f.prev i = p ∧ f.child i = c.root ∧ f.next i = n.root ∧ Rep f i c ∧ Rep f i n
def Ord (f : PH) : BT → Prop
  | .nil => True
  | .node i c n => (∀ x ∈ c.ids, PItem.lt (f.it i) (f.it x)) ∧ Ord f c ∧ Ord f n

/-- Links as they were where S says no; what is ranked, and what is there, as it was. -/
structure Mv (f f' : PH) (S : List Int) : Prop where
  dl : f'.dl = f.dl
  sq : f'.sq = f.sq
  there : f'.there = f.there
  child : ∀ i, i ∉ S → f'.child i = f.child i
  next : ∀ i, i ∉ S → f'.next i = f.next i
  prev : ∀ i, i ∉ S → f'.prev i = f.prev i
theorem Mv.refl (f : PH) (S : List Int) : Mv f f S := ⟨rfl, rfl, rfl, fun _ _ => rfl, fun _ _ => rfl, fun _ _ => rfl⟩
theorem Mv.trans {f g h : PH} {S T : List Int} (a : Mv f g S) (b : Mv g h T) : Mv f h (S ++ T) :=
  ⟨b.dl.trans a.dl, b.sq.trans a.sq, b.there.trans a.there, fun i hi => by simp only [List.mem_append, not_or] at hi; exact (b.child i hi.2).trans (a.child i hi.1),
   fun i hi => by simp only [List.mem_append, not_or] at hi; exact (b.next i hi.2).trans (a.next i hi.1), fun i hi => by simp only [List.mem_append, not_or] at hi; exact (b.prev i hi.2).trans (a.prev i hi.1)⟩
theorem Mv.mono {f g : PH} {S T : List Int} (a : Mv f g S) (h : ∀ i ∈ S, i ∈ T) : Mv f g T :=
  ⟨a.dl, a.sq, a.there, fun i hi => a.child i fun e => hi (h i e), fun i hi => a.next i fun e => hi (h i e), fun i hi => a.prev i fun e => hi (h i e)⟩
theorem Mv.it {f g : PH} {S : List Int} (a : Mv f g S) : g.it = f.it := by
  funext i; simp [PH.it, a.dl, a.sq]

theorem Rep.congr {f g : PH} : ∀ {t : BT} {p : Int}, (∀ i ∈ t.ids, g.child i = f.child i ∧ g.next i = f.next i ∧ g.prev i = f.prev i) → Rep f p t → Rep g p t
  | .nil, _, _, _ => trivial
  | .node i c n, p, h, ⟨h1, h2, h3, h4, h5⟩ => by
    obtain ⟨a, b, d⟩ := h i (by simp [BT.ids])
    exact ⟨d.trans h1, a.trans h2, b.trans h3, Rep.congr (fun j hj => h j (by simp [BT.ids, hj])) h4, Rep.congr (fun j hj => h j (by simp [BT.ids, hj])) h5⟩
theorem Rep.mv {f g : PH} {S : List Int} {t : BT} {p : Int} (h : Rep f p t) (a : Mv f g S) (hd : ∀ i ∈ t.ids, i ∉ S) : Rep g p t :=
  h.congr fun i hi => ⟨a.child i (hd i hi), a.next i (hd i hi), a.prev i (hd i hi)⟩
theorem Ord.it {f g : PH} (h : g.it = f.it) : ∀ {t : BT}, Ord f t → Ord g t
  | .nil, _ => trivial
  | .node i c n, ⟨h1, h2, h3⟩ => ⟨fun x hx => by rw [h]; exact h1 x hx, Ord.it h h2, Ord.it h h3⟩
theorem BT.root_mem : ∀ (t : BT), t.root = -1 ∧ t = .nil ∨ t.root ∈ t.ids
  | .nil => .inl ⟨rfl, rfl⟩
  | .node i c n => .inr (by simp [BT.ids, BT.root])

/-! ### putting two together -/
def aheadF (f : PH) (a b : Int) : Bool := decide (PItem.lt (f.it a) (f.it b))
def linkF (f : PH) (a b : Int) : PH :=
  { f with
    next := upd f.next b (f.child a)
    prev := if f.child a = -1 then upd f.prev b a else upd (upd f.prev b a) (f.child a) b
    child := upd f.child a b }
def meldF (f : PH) (a b : Int) : PH × Int :=
  if a = -1 ∨ b = -1 then (f, max a b) else if aheadF f b a then (linkF f b a, b) else (linkF f a b, a)
def meldT (f : PH) : BT → BT → BT
  | .nil, b => b
  | a, .nil => a
  | .node a ca _, .node b cb _ => if aheadF f b a then .node b (.node a ca cb) .nil else .node a (.node b cb ca) .nil

theorem link_rep {f : PH} {a b : Int} {ca cb : BT} {pb : Int} (ha : Rep f (-1) (.node a ca .nil)) (hb : Rep f pb (.node b cb .nil)) (hnd : ((BT.node a ca .nil).ids ++ (BT.node b cb .nil).ids).Nodup) (hn : ∀ i ∈ ca.ids, 0 ≤ i) :
    Rep (linkF f a b) (-1) (.node a (.node b cb ca) .nil) ∧ Mv f (linkF f a b) ((BT.node a ca .nil).ids ++ (BT.node b cb .nil).ids) := by
  simp only [BT.ids, List.append_nil] at hnd ⊢
  obtain ⟨a1, a2, a3, a4, _⟩ := ha
  obtain ⟨b1, b2, b3, b4, _⟩ := hb
  rw [List.nodup_append] at hnd
  obtain ⟨n1, n2, n3⟩ := hnd
  rw [List.nodup_cons] at n1 n2
  have hab : a ≠ b := n3 a (by simp) b (by simp)
  have hb_ca : b ∉ ca.ids := fun h => n3 b (by simp [h]) b (by simp) rfl
  have ha_cb : a ∉ cb.ids := fun h => n3 a (by simp) a (by simp [h]) rfl
  have hdis : ∀ x ∈ ca.ids, x ∉ cb.ids := fun x hx h => n3 x (by simp [hx]) x (by simp [h]) rfl
  have hroot : ca.root = -1 ∧ ca = .nil ∨ ca.root ∈ ca.ids := ca.root_mem
  have hch : f.child a = ca.root := a2
  have eprev : ∀ j, (linkF f a b).prev j = if f.child a ≠ -1 ∧ j = f.child a then b else if j = b then a else f.prev j := fun j => by
    by_cases h : f.child a = -1
    · simp [linkF, h, upd]
    · simp [linkF, h, upd]
  have enext : ∀ j, (linkF f a b).next j = if j = b then f.child a else f.next j := fun j => rfl
  have echild : ∀ j, (linkF f a b).child j = if j = a then b else f.child j := fun j => rfl
  refine ⟨⟨?_, ?_, ?_, ⟨?_, ?_, ?_, ?_, ?_⟩, trivial⟩, rfl, rfl, rfl, ?_, ?_, ?_⟩
  · rw [eprev, if_neg, if_neg hab]; exact a1
    rintro ⟨h, e⟩
    rcases hroot with ⟨h1, _⟩ | h1
    · exact h (hch.trans h1)
    · rw [← hch, ← e] at h1; exact n1.1 h1
  · rw [echild, if_pos rfl]; rfl
  · rw [enext, if_neg hab]; exact a3
  · rw [eprev, if_neg, if_pos rfl]
    rintro ⟨h, e⟩
    rcases hroot with ⟨h1, _⟩ | h1
    · exact h (hch.trans h1)
    · rw [← hch, ← e] at h1; exact hb_ca h1
  · rw [echild, if_neg (Ne.symm hab)]; exact b2
  · rw [enext, if_pos rfl]; exact hch
  · refine b4.congr fun i hi => ⟨?_, ?_, ?_⟩
    · rw [echild, if_neg]; rintro rfl; exact ha_cb hi
    · rw [enext, if_neg]; rintro rfl; exact n2.1 hi
    · rw [eprev, if_neg, if_neg]
      · rintro rfl; exact n2.1 hi
      · rintro ⟨h, e⟩
        rcases hroot with ⟨h1, _⟩ | h1
        · exact h (hch.trans h1)
        · rw [← hch, ← e] at h1; exact hdis _ h1 hi
  · cases ca with
    | nil => trivial
    | node c cc cn =>
      obtain ⟨c1, c2, c3, c4, c5⟩ := a4
      have hcid : f.child a = c := hch
      have hc0 : f.child a ≠ -1 := by
        rw [hcid]
        have := hn c (by simp [BT.ids])
        omega
      have n1' := n1.2
      simp only [BT.ids, List.nodup_cons] at n1'
      have hoth : ∀ i ∈ cc.ids ++ cn.ids, (linkF f a b).child i = f.child i ∧ (linkF f a b).next i = f.next i ∧ (linkF f a b).prev i = f.prev i := fun i hi => by
        have hia : i ≠ a := by rintro rfl; exact n1.1 (by simp only [BT.ids, List.mem_cons]; exact .inr hi)
        have hib : i ≠ b := by rintro rfl; exact hb_ca (by simp only [BT.ids, List.mem_cons]; exact .inr hi)
        have hic : i ≠ c := by rintro rfl; exact n1'.1 hi
        refine ⟨?_, ?_, ?_⟩
        · rw [echild, if_neg hia]
        · rw [enext, if_neg hib]
        · rw [eprev, if_neg (by rw [hcid]; exact fun h => hic h.2), if_neg hib]
      have hca : c ≠ a := by rintro rfl; exact n1.1 (by simp [BT.ids])
      have hcb : c ≠ b := by rintro rfl; exact hb_ca (by simp [BT.ids])
      refine ⟨?_, ?_, ?_, c4.congr fun i hi => hoth i (by simp [hi]), c5.congr fun i hi => hoth i (by simp [hi])⟩
      · rw [eprev, if_pos ⟨hc0, hcid.symm⟩]
      · rw [echild, if_neg hca]; exact c2
      · rw [enext, if_neg hcb]; exact c3
  · intro i hi
    rw [echild, if_neg]; rintro rfl; simp at hi
  · intro i hi
    rw [enext, if_neg]; rintro rfl; simp at hi
  · intro i hi
    rw [eprev, if_neg, if_neg]
    · rintro rfl; simp at hi
    · rintro ⟨h, e⟩
      rcases hroot with ⟨h1, _⟩ | h1
      · exact h (hch.trans h1)
      · rw [← hch, ← e] at h1; simp [h1] at hi

/-- A tree that hangs on nothing and has no sibling. -/
structure Tr (f : PH) (t : BT) : Prop where
  rep : Rep f (-1) t
  one : t.single
  ord : Ord f t
  nn : ∀ i ∈ t.ids, 0 ≤ i
theorem Tr.nil {f : PH} : Tr f .nil := ⟨trivial, trivial, trivial, fun _ h => by simp [BT.ids] at h⟩
theorem Tr.mv {f g : PH} {S : List Int} {t : BT} (h : Tr f t) (a : Mv f g S) (hd : ∀ i ∈ t.ids, i ∉ S) : Tr g t := ⟨h.rep.mv a hd, h.one, h.ord.it a.it, h.nn⟩

theorem meld_tr {f : PH} {a b : BT} (ha : Tr f a) (hb : Tr f b) (hnd : (a.ids ++ b.ids).Nodup) :
    Tr (meldF f a.root b.root).1 (meldT f a b) ∧ (meldF f a.root b.root).2 = (meldT f a b).root ∧ (meldT f a b).ids.Perm (a.ids ++ b.ids) ∧ Mv f (meldF f a.root b.root).1 (a.ids ++ b.ids) := by
  cases a with
  | nil =>
    have h2 : (-1 : Int) ≤ b.root := by
      rcases b.root_mem with ⟨h, _⟩ | h
      · omega
      · have := hb.nn _ h; omega
    have e : meldF f BT.nil.root b.root = (f, b.root) := by
      show meldF f (-1) b.root = _
      rw [meldF, if_pos (.inl rfl), Int.max_eq_right h2]
    rw [e]
    exact ⟨hb, rfl, by simp [meldT, BT.ids], Mv.refl _ _⟩
  | node x cx nx =>
    have hx0 := ha.nn x (by simp [BT.ids])
    have e1 : nx = .nil := by
      have := ha.one
      cases nx with
      | nil => rfl
      | node _ _ _ => exact this.elim
    subst e1
    cases b with
    | nil =>
      have e : meldF f (BT.node x cx .nil).root BT.nil.root = (f, x) := by
        show meldF f x (-1) = _
        rw [meldF, if_pos (.inr rfl), Int.max_eq_left (by omega)]
      rw [e]
      exact ⟨ha, rfl, by simp [meldT, BT.ids], Mv.refl _ _⟩
    | node y cy ny =>
      have hy0 := hb.nn y (by simp [BT.ids])
      have e2 : ny = .nil := by
        have := hb.one
        cases ny with
        | nil => rfl
        | node _ _ _ => exact this.elim
      subst e2
      have hxy : x ≠ y := by
        rw [List.nodup_append] at hnd
        exact hnd.2.2 x (by simp [BT.ids]) y (by simp [BT.ids])
      have hne : ¬ (x = -1 ∨ y = -1) := by omega
      by_cases h : aheadF f y x = true
      · have e1 : meldF f (BT.node x cx .nil).root (BT.node y cy .nil).root = (linkF f y x, y) := by
          show meldF f x y = _
          rw [meldF, if_neg hne, if_pos h]
        have e2 : meldT f (BT.node x cx .nil) (BT.node y cy .nil) = .node y (.node x cx cy) .nil := if_pos h
        rw [e1, e2]
        have hlt : PItem.lt (f.it y) (f.it x) := of_decide_eq_true h
        have hnd' : ((BT.node y cy .nil).ids ++ (BT.node x cx .nil).ids).Nodup := (List.perm_append_comm.nodup_iff).1 hnd
        obtain ⟨r, m⟩ := link_rep hb.rep ha.rep hnd' (fun i hi => hb.nn i (by simp [BT.ids, hi]))
        have hp : (BT.node y (.node x cx cy) .nil).ids.Perm ((BT.node x cx .nil).ids ++ (BT.node y cy .nil).ids) := by
          simp only [BT.ids, List.append_nil, List.cons_append]
          rw [List.perm_iff_count]; intro z; simp only [List.count_cons, List.count_append]; omega
        refine ⟨⟨r, trivial, Ord.it (f := f) m.it ⟨?_, ⟨ha.ord.1, ha.ord.2.1, hb.ord.2.1⟩, trivial⟩, fun i hi => ?_⟩, rfl, hp, m.mono fun i hi => ?_⟩
        · intro z hz
          simp only [BT.ids, List.mem_cons, List.mem_append] at hz
          rcases hz with rfl | hz | hz
          · exact hlt
          · exact hlt.trans (ha.ord.1 z hz)
          · exact hb.ord.1 z hz
        · have := hp.mem_iff.1 hi
          rcases List.mem_append.1 this with h | h
          · exact ha.nn i h
          · exact hb.nn i h
        · exact (List.perm_append_comm.mem_iff).1 hi
      · have e1 : meldF f (BT.node x cx .nil).root (BT.node y cy .nil).root = (linkF f x y, x) := by
          show meldF f x y = _
          rw [meldF, if_neg hne, if_neg h]
        have e2 : meldT f (BT.node x cx .nil) (BT.node y cy .nil) = .node x (.node y cy cx) .nil := if_neg h
        rw [e1, e2]
        have hlt : PItem.lt (f.it x) (f.it y) := by
          have h1 : ¬ PItem.lt (f.it y) (f.it x) := fun g => h (decide_eq_true g)
          exact (PItem.lt_total (a := f.it x) (b := f.it y) hxy).resolve_right h1
        obtain ⟨r, m⟩ := link_rep ha.rep hb.rep hnd (fun i hi => ha.nn i (by simp [BT.ids, hi]))
        have hp : (BT.node x (.node y cy cx) .nil).ids.Perm ((BT.node x cx .nil).ids ++ (BT.node y cy .nil).ids) := by
          simp only [BT.ids, List.append_nil, List.cons_append]
          rw [List.perm_iff_count]; intro z; simp only [List.count_cons, List.count_append]; omega
        refine ⟨⟨r, trivial, Ord.it (f := f) m.it ⟨?_, ⟨hb.ord.1, hb.ord.2.1, ha.ord.2.1⟩, trivial⟩, fun i hi => ?_⟩, rfl, hp, m⟩
        · intro z hz
          simp only [BT.ids, List.mem_cons, List.mem_append] at hz
          rcases hz with rfl | hz | hz
          · exact hlt
          · exact hlt.trans (hb.ord.1 z hz)
          · exact ha.ord.1 z hz
        · have := hp.mem_iff.1 hi
          rcases List.mem_append.1 this with h | h
          · exact ha.nn i h
          · exact hb.nn i h

/-! ### links stay in range -/
def Bd (n : Nat) (f : PH) : Prop := ∀ i : Int, 0 ≤ i → i < n → (-1 ≤ f.child i ∧ f.child i < n) ∧ (-1 ≤ f.next i ∧ f.next i < n) ∧ (-1 ≤ f.prev i ∧ f.prev i < n)
theorem upd_in {n : Nat} {g : Int → Int} {a x : Int} (hx : -1 ≤ x ∧ x < n) {i : Int} (hg : -1 ≤ g i ∧ g i < n) : -1 ≤ upd g a x i ∧ upd g a x i < n := by
  unfold upd; split
  · exact hx
  · exact hg
theorem Bd.link {n : Nat} {f : PH} (h : Bd n f) {a b : Int} (ha : 0 ≤ a ∧ a < n) (hb : 0 ≤ b ∧ b < n) : Bd n (linkF f a b) := fun i h0 h1 => by
  obtain ⟨g1, g2, g3⟩ := h i h0 h1
  have hc := (h a ha.1 ha.2).1
  refine ⟨upd_in (by omega) g1, upd_in hc g2, ?_⟩
  show -1 ≤ (if f.child a = -1 then upd f.prev b a else upd (upd f.prev b a) (f.child a) b) i ∧ (if f.child a = -1 then upd f.prev b a else upd (upd f.prev b a) (f.child a) b) i < n
  have hq := upd_in (a := b) (x := a) (by omega) g3
  split
  · exact hq
  · exact upd_in (by omega) hq
theorem Bd.meld {n : Nat} {f : PH} (h : Bd n f) {a b : Int} (ha : -1 ≤ a ∧ a < n) (hb : -1 ≤ b ∧ b < n) : Bd n (meldF f a b).1 ∧ -1 ≤ (meldF f a b).2 ∧ (meldF f a b).2 < n := by
  unfold meldF
  split
  · exact ⟨h, by omega, by omega⟩
  · split
    · exact ⟨h.link (by omega) (by omega), by dsimp only; omega, by dsimp only; omega⟩
    · exact ⟨h.link (by omega) (by omega), by dsimp only; omega, by dsimp only; omega⟩

/-! ### letting loose -/
def looseF (f : PH) (a : Int) : PH := { f with next := upd f.next a (-1), prev := upd f.prev a (-1) }
theorem Bd.loose {n : Nat} {f : PH} (h : Bd n f) (a : Int) : Bd n (looseF f a) := fun i h0 h1 => by
  obtain ⟨g1, g2, g3⟩ := h i h0 h1
  exact ⟨g1, upd_in (by omega) g2, upd_in (by omega) g3⟩
theorem loose_mv (f : PH) (a : Int) : Mv f (looseF f a) [a] :=
  ⟨rfl, rfl, rfl, fun _ _ => rfl, fun i hi => upd_ne _ _ (by simpa using hi), fun i hi => upd_ne _ _ (by simpa using hi)⟩
theorem loose_rep {f : PH} {p a : Int} {c n : BT} (h : Rep f p (.node a c n)) (ha : a ∉ c.ids) : Rep (looseF f a) (-1) (.node a c .nil) := by
  obtain ⟨h1, h2, h3, h4, h5⟩ := h
  exact ⟨upd_same _ _ _, h2, upd_same _ _ _, h4.mv (loose_mv f a) (fun i hi e => by simp at e; subst e; exact ha hi), trivial⟩

/-! ### gathering -/
/-- One step: the first one, or the first two, of siblings. -/
theorem pair_one {f : PH} {p a : Int} {c : BT} (h : Rep f p (.node a c .nil)) (ho : Ord f (.node a c .nil)) (hnd : (BT.node a c .nil).ids.Nodup) (hn : ∀ i ∈ (BT.node a c .nil).ids, 0 ≤ i) :
    Tr (looseF f a) (.node a c .nil) ∧ Mv f (looseF f a) (BT.node a c .nil).ids := by
  have ha : a ∉ c.ids := by
    simp only [BT.ids, List.append_nil, List.nodup_cons] at hnd; exact hnd.1
  refine ⟨⟨loose_rep h ha, trivial, ho.it (loose_mv f a).it, hn⟩, (loose_mv f a).mono fun i hi => ?_⟩
  simp at hi; subst hi; simp [BT.ids]

theorem pair_two {f : PH} {p a b : Int} {c d r : BT} (h : Rep f p (.node a c (.node b d r))) (ho : Ord f (.node a c (.node b d r))) (hnd : (BT.node a c (.node b d r)).ids.Nodup) (hn : ∀ i ∈ (BT.node a c (.node b d r)).ids, 0 ≤ i) :
    let g := looseF (looseF f b) a
    Tr g (.node a c .nil) ∧ Tr g (.node b d .nil) ∧ Rep g b r ∧ Mv f g [b, a] ∧ f.next a = b ∧ f.next b = r.root := by
  intro g
  obtain ⟨h1, h2, h3, h4, h5⟩ := h
  obtain ⟨k1, k2, k3, k4, k5⟩ := h5
  have hm : Mv f g [b, a] := (loose_mv f b).trans (loose_mv _ a)
  simp only [BT.ids, List.nodup_cons, List.nodup_append, List.mem_append, List.mem_cons, not_or] at hnd
  obtain ⟨⟨x1, x2, x3, x4⟩, y1, ⟨⟨y2, y3⟩, z1, z2, z3⟩, y4⟩ := hnd
  have hbc : b ∉ c.ids := fun e => y4 b e b (.inl rfl) rfl
  have e1 : Rep (looseF f b) (-1) (.node b d .nil) := loose_rep (p := a) ⟨k1, k2, k3, k4, k5⟩ y2
  refine ⟨⟨⟨upd_same _ _ _, h2, upd_same _ _ _, h4.mv hm fun i hi e => ?_, trivial⟩, trivial, ⟨(fun x hx => by rw [hm.it]; exact ho.1 x hx), ho.2.1.it hm.it, trivial⟩, fun i hi => hn i ?_⟩,
    ⟨e1.mv (loose_mv _ a) fun i hi e => ?_, trivial, ⟨(fun x hx => by rw [hm.it]; exact ho.2.2.1 x hx), ho.2.2.2.1.it hm.it, trivial⟩, fun i hi => hn i ?_⟩, k5.mv hm fun i hi e => ?_, hm, h3, k3⟩
  · simp only [List.mem_cons, List.not_mem_nil, or_false] at e
    rcases e with rfl | rfl
    · exact hbc hi
    · exact x1 hi
  · simp only [BT.ids, List.append_nil, List.mem_cons, List.mem_append] at hi ⊢
    rcases hi with h | h
    · exact .inl h
    · exact .inr (.inl h)
  · simp only [List.mem_cons, List.not_mem_nil, or_false] at e
    subst e
    simp only [BT.ids, List.append_nil, List.mem_cons] at hi
    rcases hi with h | h
    · exact x2 h
    · exact x3 h
  · simp only [BT.ids, List.append_nil, List.mem_cons, List.mem_append] at hi ⊢
    rcases hi with h | h
    · exact .inr (.inr (.inl h))
    · exact .inr (.inr (.inr (.inl h)))
  · simp only [List.mem_cons, List.not_mem_nil, or_false] at e
    rcases e with rfl | rfl
    · exact y3 hi
    · exact x4 hi

/-! ### cutting -/
def cutF (f : PH) (a : Int) : PH :=
  let f1 : PH := if f.prev a = -1 then f else if f.child (f.prev a) = a then { f with child := upd f.child (f.prev a) (f.next a) } else { f with next := upd f.next (f.prev a) (f.next a) }
  let f2 : PH := if f.next a = -1 then f1 else { f1 with prev := upd f1.prev (f.next a) (f.prev a) }
  looseF f2 a
theorem Bd.cut {n : Nat} {f : PH} (h : Bd n f) {a : Int} (ha : 0 ≤ a ∧ a < n) : Bd n (cutF f a) := by
  obtain ⟨_, hx, hp⟩ := h a ha.1 ha.2
  have h1 : Bd n (if f.prev a = -1 then f else if f.child (f.prev a) = a then { f with child := upd f.child (f.prev a) (f.next a) } else { f with next := upd f.next (f.prev a) (f.next a) }) := by
    split
    · exact h
    · split
      · exact fun i h0 h1 => by obtain ⟨g1, g2, g3⟩ := h i h0 h1; exact ⟨upd_in hx g1, g2, g3⟩
      · exact fun i h0 h1 => by obtain ⟨g1, g2, g3⟩ := h i h0 h1; exact ⟨g1, upd_in hx g2, g3⟩
  unfold cutF
  refine Bd.loose ?_ a
  split
  · exact h1
  · exact fun i h0 g1 => by obtain ⟨a1, a2, a3⟩ := h1 i h0 g1; exact ⟨a1, a2, upd_in hp a3⟩

def BT.cut (id : Int) : BT → BT
  | .nil => .nil
  | .node i c n => if i = id then n else .node i (c.cut id) (n.cut id)
def BT.kids (id : Int) : BT → BT
  | .nil => .nil
  | .node i c n => if i = id then c else if id ∈ c.ids then c.kids id else n.kids id
theorem BT.cut_out {id : Int} : ∀ {t : BT}, id ∉ t.ids → t.cut id = t
  | .nil, _ => rfl
  | .node i c n, h => by
    simp only [BT.ids, List.mem_cons, List.mem_append, not_or] at h
    simp only [BT.cut, if_neg (Ne.symm h.1), BT.cut_out h.2.1, BT.cut_out h.2.2]
theorem BT.cut_ids {id : Int} : ∀ {t : BT}, id ∈ t.ids → t.ids.Nodup → t.ids.Perm ((t.cut id).ids ++ id :: (t.kids id).ids)
  | .nil, h, _ => by simp [BT.ids] at h
  | .node i c n, h, hnd => by
    simp only [BT.ids, List.nodup_cons, List.nodup_append, List.mem_append, not_or] at hnd
    obtain ⟨⟨x1, x2⟩, x3, x4, x5⟩ := hnd
    by_cases e : i = id
    · subst e
      simp only [BT.cut, BT.kids, BT.ids, if_true]
      rw [List.perm_iff_count]; intro z; simp only [List.count_cons, List.count_append]; omega
    · simp only [BT.ids, List.mem_cons, List.mem_append] at h
      by_cases hc : id ∈ c.ids
      · have hn : id ∉ n.ids := fun g => x5 id hc id g rfl
        have ih := BT.cut_ids hc x3
        simp only [BT.cut, BT.kids, BT.ids, if_neg e, if_pos hc, BT.cut_out hn]
        rw [List.perm_iff_count] at ih ⊢; intro z
        have := ih z
        simp only [List.count_cons, List.count_append] at this ⊢; omega
      · have hn : id ∈ n.ids := (h.resolve_left (Ne.symm e)).resolve_left hc
        have ih := BT.cut_ids hn x4
        simp only [BT.cut, BT.kids, BT.ids, if_neg e, if_neg hc, BT.cut_out hc]
        rw [List.perm_iff_count] at ih ⊢; intro z
        have := ih z
        simp only [List.count_cons, List.count_append] at this ⊢; omega
theorem BT.cut_sub {id x : Int} : ∀ {t : BT}, x ∈ (t.cut id).ids → x ∈ t.ids
  | .nil, h => h
  | .node i c n, h => by
    simp only [BT.cut] at h
    simp only [BT.ids, List.mem_cons, List.mem_append]
    split at h
    · exact .inr (.inr h)
    · simp only [BT.ids, List.mem_cons, List.mem_append] at h
      rcases h with h | h | h
      · exact .inl h
      · exact .inr (.inl (BT.cut_sub h))
      · exact .inr (.inr (BT.cut_sub h))
theorem Ord.cut {f : PH} {id : Int} : ∀ {t : BT}, Ord f t → Ord f (t.cut id)
  | .nil, _ => trivial
  | .node i c n, ⟨h1, h2, h3⟩ => by
    simp only [BT.cut]
    split
    · exact h3
    · exact ⟨fun x hx => h1 x (BT.cut_sub hx), h2.cut, h3.cut⟩
theorem Ord.kids {f : PH} {id : Int} : ∀ {t : BT}, Ord f t → Ord f (t.kids id)
  | .nil, _ => trivial
  | .node i c n, ⟨h1, h2, h3⟩ => by
    simp only [BT.kids]
    split
    · exact h2
    · split
      · exact h2.kids
      · exact h3.kids
/-- What the links at an id in a tree are. -/
theorem Rep.at {f : PH} {id : Int} : ∀ {t : BT} {p : Int}, Rep f p t → id ∈ t.ids → t.ids.Nodup →
    f.child id = (t.kids id).root ∧ Rep f id (t.kids id) ∧ (t.root = id ∧ f.prev id = p ∨ t.root ≠ id ∧ f.prev id ∈ (t.cut id).ids) ∧ (f.next id = -1 ∨ f.next id ∈ (t.cut id).ids)
  | .nil, _, _, h, _ => by simp [BT.ids] at h
  | .node i c n, p, ⟨h1, h2, h3, h4, h5⟩, h, hnd => by
    simp only [BT.ids, List.nodup_cons, List.nodup_append, List.mem_append, not_or] at hnd
    obtain ⟨⟨x1, x2⟩, x3, x4, x5⟩ := hnd
    by_cases e : i = id
    · subst e
      rw [show BT.kids i (.node i c n) = c from if_pos rfl, show BT.cut i (.node i c n) = n from if_pos rfl]
      refine ⟨h2, h4, .inl ⟨rfl, h1⟩, ?_⟩
      rw [h3]
      rcases n.root_mem with ⟨h, _⟩ | h
      · exact .inl h
      · exact .inr h
    · simp only [BT.ids, List.mem_cons, List.mem_append] at h
      simp only [BT.kids, BT.cut, BT.root, if_neg e, BT.ids, List.mem_cons, List.mem_append]
      by_cases hc : id ∈ c.ids
      · obtain ⟨a1, a2, a3, a4⟩ := Rep.at h4 hc x3
        rw [if_pos hc]
        refine ⟨a1, a2, .inr ⟨e, ?_⟩, a4.imp (fun h => h) fun h => .inr (.inl h)⟩
        rcases a3 with ⟨_, g⟩ | ⟨_, g⟩
        · exact .inl g
        · exact .inr (.inl g)
      · have hn : id ∈ n.ids := (h.resolve_left (Ne.symm e)).resolve_left hc
        obtain ⟨a1, a2, a3, a4⟩ := Rep.at h5 hn x4
        rw [if_neg hc]
        refine ⟨a1, a2, .inr ⟨e, ?_⟩, a4.imp (fun h => h) fun h => .inr (.inr h)⟩
        rcases a3 with ⟨_, g⟩ | ⟨_, g⟩
        · exact .inl g
        · exact .inr (.inr g)

structure CutIs (f g : PH) (id p0 x0 : Int) : Prop where
  child : ∀ j, g.child j = if j = p0 ∧ f.child p0 = id then x0 else f.child j
  next : ∀ j, g.next j = if j = id then -1 else if j = p0 ∧ f.child p0 ≠ id then x0 else f.next j
  prev : ∀ j, g.prev j = if j = id then -1 else if j = x0 ∧ x0 ≠ -1 then p0 else f.prev j
theorem cut_is {f : PH} {id : Int} (hp : f.prev id ≠ -1) : CutIs f (cutF f id) id (f.prev id) (f.next id) := by
  refine ⟨fun j => ?_, fun j => ?_, fun j => ?_⟩
  all_goals
    unfold cutF looseF
    simp only [if_neg hp]
    by_cases h1 : f.child (f.prev id) = id <;> by_cases h2 : f.next id = -1 <;> simp [h1, h2, upd]
theorem cut_mv {f : PH} {id : Int} (hp : f.prev id ≠ -1) : Mv f (cutF f id) [id, f.prev id, f.next id] := by
  have h := cut_is hp
  refine ⟨?_, ?_, ?_, fun i hi => ?_, fun i hi => ?_, fun i hi => ?_⟩
  · unfold cutF looseF; simp only [if_neg hp]; split <;> split <;> rfl
  · unfold cutF looseF; simp only [if_neg hp]; split <;> split <;> rfl
  · unfold cutF looseF; simp only [if_neg hp]; split <;> split <;> rfl
  · simp only [List.mem_cons, List.not_mem_nil, or_false, not_or] at hi
    rw [h.child, if_neg fun e => hi.2.1 e.1]
  · simp only [List.mem_cons, List.not_mem_nil, or_false, not_or] at hi
    rw [h.next, if_neg hi.1, if_neg fun e => hi.2.1 e.1]
  · simp only [List.mem_cons, List.not_mem_nil, or_false, not_or] at hi
    rw [h.prev, if_neg hi.1, if_neg fun e => hi.2.2 e.1]

theorem cut_rep {f g : PH} {id p0 x0 : Int} (hg : CutIs f g id p0 x0) (e0 : f.prev id = p0) (e1 : f.next id = x0) : ∀ {t : BT} {p : Int}, Rep f p t → id ∈ t.ids → t.ids.Nodup → (∀ i ∈ t.ids, 0 ≤ i) → t.root ≠ id → Rep g p (t.cut id) ∧ (t.cut id).root = t.root
  | .nil, _, _, h, _, _, _ => by simp [BT.ids] at h
  | .node i c n, p, ⟨h1, h2, h3, h4, h5⟩, h, hnd, hnn, hr => by
    have hid0 := hnn id h
    have hi0 := hnn i (by simp [BT.ids])
    have e : i ≠ id := hr
    simp only [BT.ids, List.nodup_cons, List.nodup_append, List.mem_append, not_or] at hnd
    obtain ⟨⟨x1, x2⟩, x3, x4, x5⟩ := hnd
    simp only [BT.ids, List.mem_cons, List.mem_append] at h
    simp only [BT.cut, if_neg e]
    -- a tree that holds neither of the three stays
    have stay : ∀ (t : BT) (q : Int), Rep f q t → id ∉ t.ids → p0 ∉ t.ids → x0 ∉ t.ids → Rep g q t := fun t q ht a b d => ht.congr fun j hj => by
      have j1 : j ≠ id := fun e => a (e ▸ hj)
      have j2 : j ≠ p0 := fun e => b (e ▸ hj)
      have j3 : j ≠ x0 := fun e => d (e ▸ hj)
      exact ⟨by rw [hg.child, if_neg fun e => j2 e.1], by rw [hg.next, if_neg j1, if_neg fun e => j2 e.1], by rw [hg.prev, if_neg j1, if_neg fun e => j3 e.1]⟩
    -- what follows the one that is cut
    have follow : ∀ (cc cn : BT) (q : Int), Rep f q (.node id cc cn) → q = p0 → (BT.node id cc cn).ids.Nodup → (∀ j ∈ (BT.node id cc cn).ids, 0 ≤ j) → p0 ∉ (BT.node id cc cn).ids → Rep g p0 cn ∧ cn.root = x0 := by
      intro cc cn q ⟨k1, k2, k3, k4, k5⟩ hq hnd' hnn' hp'
      have hx : cn.root = x0 := k3.symm.trans e1
      refine ⟨?_, hx⟩
      cases cn with
      | nil => trivial
      | node x xc xn =>
        obtain ⟨l1, l2, l3, l4, l5⟩ := k5
        have hxx : x = x0 := hx
        subst hxx
        have hx0 := hnn' x (by simp [BT.ids])
        simp only [BT.ids, List.nodup_cons, List.nodup_append, List.mem_append, List.mem_cons, not_or] at hnd' hp'
        obtain ⟨⟨y1, y2, y3, y4⟩, y5, ⟨⟨z1, z2⟩, z3, z4, z5⟩, y6⟩ := hnd'
        obtain ⟨q1, q2, q3, q4, q5⟩ := hp'
        refine ⟨?_, ?_, ?_, stay _ _ l4 y3 q4 z1, stay _ _ l5 y4 q5 z2⟩
        · rw [hg.prev, if_neg (Ne.symm y2), if_pos ⟨rfl, by omega⟩]
        · rw [hg.child, if_neg fun e => q3 e.1.symm]; exact l2
        · rw [hg.next, if_neg (Ne.symm y2), if_neg fun e => q3 e.1.symm]; exact l3
    by_cases hc : id ∈ c.ids
    · have hn : id ∉ n.ids := fun k => x5 id hc id k rfl
      have hnc : ∀ j ∈ c.ids, 0 ≤ j := fun j hj => hnn j (by simp [BT.ids, hj])
      obtain ⟨b1, b2, b3, b4⟩ := Rep.at h4 hc x3
      have hx0c : x0 = -1 ∨ x0 ∈ c.ids := by rw [← e1]; exact b4.imp (fun h => h) BT.cut_sub
      have hxi : ¬ (i = x0 ∧ x0 ≠ -1) := fun k => by
        rcases hx0c with h | h
        · exact k.2 h
        · exact x1 (k.1 ▸ h)
      have hxn : x0 ∉ n.ids := fun k => by
        rcases hx0c with h | h
        · have := hnn x0 (by simp [BT.ids, k]); omega
        · exact x5 x0 h x0 k rfl
      rw [BT.cut_out hn]
      refine ⟨?_, rfl⟩
      by_cases hroot : c.root = id
      · cases c with
        | nil => simp [BT.ids] at hc
        | node ic cc cn =>
          have : ic = id := hroot
          subst this
          have hp0 : p0 = i := by rw [← e0]; exact h4.1
          subst hp0
          obtain ⟨f1, f2⟩ := follow cc cn _ h4 rfl x3 hnc x1
          simp only [BT.cut, if_true]
          refine ⟨?_, ?_, ?_, f1, stay _ _ h5 hn x2 hxn⟩
          · rw [hg.prev, if_neg e, if_neg hxi]; exact h1
          · rw [hg.child, if_pos ⟨rfl, h2⟩, f2]
          · rw [hg.next, if_neg e, if_neg fun k => k.2 h2]; exact h3
      · obtain ⟨r1, r2⟩ := cut_rep hg e0 e1 h4 hc x3 hnc hroot
        have hp0c : p0 ∈ c.ids := by
          rcases b3 with ⟨b, _⟩ | ⟨_, b⟩
          · exact absurd b hroot
          · rw [← e0]; exact BT.cut_sub b
        have hip : i ≠ p0 := fun k => x1 (k ▸ hp0c)
        refine ⟨?_, ?_, ?_, r1, stay _ _ h5 hn (fun k => x5 p0 hp0c p0 k rfl) hxn⟩
        · rw [hg.prev, if_neg e, if_neg hxi]; exact h1
        · rw [hg.child, if_neg fun k => hip k.1, r2]; exact h2
        · rw [hg.next, if_neg e, if_neg fun k => hip k.1]; exact h3
    · have hn : id ∈ n.ids := (h.resolve_left (Ne.symm e)).resolve_left hc
      have hnc : ∀ j ∈ n.ids, 0 ≤ j := fun j hj => hnn j (by simp [BT.ids, hj])
      obtain ⟨b1, b2, b3, b4⟩ := Rep.at h5 hn x4
      have hx0c : x0 = -1 ∨ x0 ∈ n.ids := by rw [← e1]; exact b4.imp (fun h => h) BT.cut_sub
      have hxi : ¬ (i = x0 ∧ x0 ≠ -1) := fun k => by
        rcases hx0c with h | h
        · exact k.2 h
        · exact x2 (k.1 ▸ h)
      have hxn : x0 ∉ c.ids := fun k => by
        rcases hx0c with h | h
        · have := hnn x0 (by simp [BT.ids, k]); omega
        · exact x5 x0 k x0 h rfl
      rw [BT.cut_out hc]
      refine ⟨?_, rfl⟩
      by_cases hroot : n.root = id
      · cases n with
        | nil => simp [BT.ids] at hn
        | node ic cc cn =>
          have : ic = id := hroot
          subst this
          have hp0 : p0 = i := by rw [← e0]; exact h5.1
          subst hp0
          obtain ⟨f1, f2⟩ := follow cc cn _ h5 rfl x4 hnc x2
          have hch : f.child p0 ≠ ic := by
            rw [h2]
            rcases c.root_mem with ⟨k, _⟩ | k
            · omega
            · intro e; exact hc (e ▸ k)
          simp only [BT.cut, if_true]
          refine ⟨?_, ?_, ?_, stay _ _ h4 hc x1 hxn, f1⟩
          · rw [hg.prev, if_neg e, if_neg hxi]; exact h1
          · rw [hg.child, if_neg fun k => hch k.2]; exact h2
          · rw [hg.next, if_neg e, if_pos ⟨rfl, hch⟩, f2]
      · obtain ⟨r1, r2⟩ := cut_rep hg e0 e1 h5 hn x4 hnc hroot
        have hp0c : p0 ∈ n.ids := by
          rcases b3 with ⟨b, _⟩ | ⟨_, b⟩
          · exact absurd b hroot
          · rw [← e0]; exact BT.cut_sub b
        have hip : i ≠ p0 := fun k => x2 (k ▸ hp0c)
        refine ⟨?_, ?_, ?_, stay _ _ h4 hc (fun k => x5 p0 k p0 hp0c rfl) hxn, r1⟩
        · rw [hg.prev, if_neg e, if_neg hxi]; exact h1
        · rw [hg.child, if_neg fun k => hip k.1]; exact h2
        · rw [hg.next, if_neg e, if_neg fun k => hip k.1, r2]; exact h3

/-! ### the whole heap -/
def pIds (l : List PItem) : List Int := l.map PItem.id
structure HI (n : Nat) (l : List PItem) (f : PH) (root many : Int) (t : BT) : Prop where
  tr : Tr f t
  ids : t.ids.Perm (pIds l)
  nodup : (pIds l).Nodup
  sorted : l.Pairwise PItem.lt
  vals : ∀ x ∈ l, f.it x.id = x
  range : ∀ x ∈ l, 0 ≤ x.id ∧ x.id < n
  there : ∀ i : Int, 0 ≤ i → i < n → (f.there i = true ↔ i ∈ pIds l)
  root : root = t.root
  many : many = l.length
  bd : Bd n f
theorem HI.tnd {n : Nat} {l : List PItem} {f : PH} {root many : Int} {t : BT} (h : HI n l f root many t) : t.ids.Nodup := h.ids.nodup_iff.2 h.nodup
theorem HI.lenLe {n : Nat} {l : List PItem} {f : PH} {root many : Int} {t : BT} (h : HI n l f root many t) : l.length ≤ n := by
  have := nodup_bound n (pIds l) h.nodup (fun a ha => by
    obtain ⟨x, hx, rfl⟩ := List.mem_map.1 ha
    exact h.range x hx)
  simpa [pIds] using this

theorem HI.empty {n : Nat} {l : List PItem} {f : PH} {root many : Int} {t : BT} (h : HI n l f root many t) : (root = -1 ↔ l = []) := by
  rw [h.root]
  cases t with
  | nil =>
    have := h.ids
    simp only [BT.ids, List.nil_perm, pIds, List.map_eq_nil_iff] at this
    simp [BT.root, this]
  | node i c nx =>
    have h1 := h.tr.nn i (by simp [BT.ids])
    constructor
    · intro e; simp only [BT.root] at e; omega
    · rintro rfl
      have := h.ids
      simp [BT.ids, pIds] at this

/-- The root is the first one in the order. -/
theorem HI.head {n : Nat} {x : PItem} {l : List PItem} {f : PH} {root many : Int} {t : BT} (h : HI n (x :: l) f root many t) : root = x.id := by
  rw [h.root]
  cases t with
  | nil => have := h.ids; simp [BT.ids, pIds] at this
  | node i c nx =>
    have e1 : nx = .nil := by
      have := h.tr.one
      cases nx with
      | nil => rfl
      | node _ _ _ => exact this.elim
    subst e1
    simp only [BT.root]
    have hi : i ∈ pIds (x :: l) := h.ids.mem_iff.1 (by simp [BT.ids])
    have hx : x.id ∈ (BT.node i c .nil).ids := h.ids.mem_iff.2 (by simp [pIds])
    simp only [BT.ids, List.append_nil, List.mem_cons] at hx
    rcases hx with hx | hx
    · exact hx.symm
    · obtain ⟨y, hy, rfl⟩ := List.mem_map.1 hi
      have h1 := h.tr.ord.1 x.id hx
      rw [h.vals x (by simp), h.vals y hy] at h1
      rcases List.mem_cons.1 hy with rfl | hy
      · rfl
      · have h2 := (List.pairwise_cons.1 h.sorted).1 y hy
        exact absurd h1 h2.asymm

/-! ### lists in the order -/
def pput (x : PItem) : List PItem → List PItem
  | [] => [x]
  | y :: t => if PItem.lt x y then x :: y :: t else y :: pput x t
theorem pput_perm (x : PItem) : ∀ l, (pput x l).Perm (x :: l)
  | [] => List.Perm.refl _
  | y :: t => by
    unfold pput; split
    · exact List.Perm.refl _
    · exact ((pput_perm x t).cons y).trans (List.Perm.swap x y t)
theorem pput_sorted (x : PItem) : ∀ l, l.Pairwise PItem.lt → x.id ∉ pIds l → (pput x l).Pairwise PItem.lt
  | [], _, _ => by simp [pput]
  | y :: t, h, hx => by
    obtain ⟨h1, h2⟩ := List.pairwise_cons.1 h
    simp only [pIds, List.map_cons, List.mem_cons, not_or] at hx
    unfold pput; split
    · rename_i hlt
      refine List.pairwise_cons.2 ⟨fun z hz => ?_, h⟩
      rcases List.mem_cons.1 hz with rfl | hz
      · exact hlt
      · exact hlt.trans (h1 z hz)
    · rename_i hlt
      have hyx := (PItem.lt_total hx.1).resolve_left hlt
      refine List.pairwise_cons.2 ⟨fun z hz => ?_, pput_sorted x t h2 hx.2⟩
      rcases List.mem_cons.1 ((pput_perm x t).mem_iff.1 hz) with rfl | hz
      · exact hyx
      · exact h1 z hz
def pout (l : List PItem) (id : Int) : List PItem := l.filter fun x => decide (x.id ≠ id)
theorem pout_ids (l : List PItem) (id : Int) : pIds (pout l id) = (pIds l).filter fun i => decide (i ≠ id) := by
  unfold pIds pout
  rw [List.filter_map]; rfl
theorem mem_pout {l : List PItem} {id : Int} {x : PItem} : x ∈ pout l id ↔ x ∈ l ∧ x.id ≠ id := by simp [pout]
theorem mem_pout_ids {l : List PItem} {id i : Int} : i ∈ pIds (pout l id) ↔ i ∈ pIds l ∧ i ≠ id := by rw [pout_ids]; simp
theorem nodup_filter_perm {l : List Int} {id : Int} (h : l.Nodup) (hm : id ∈ l) : l.Perm (id :: l.filter fun i => decide (i ≠ id)) := by
  rw [List.perm_iff_count]; intro z
  by_cases e : z = id
  · subst e
    have h1 : l.count z = 1 := by
      have := List.nodup_iff_count.1 h z
      have h3 : 0 < l.count z := List.count_pos_iff.2 hm
      omega
    rw [h1, List.count_cons_self, List.count_eq_zero_of_not_mem (by simp)]
  · rw [List.count_cons_of_ne (Ne.symm e)]
    rw [List.count_filter (by simpa using e)]
theorem pout_len {l : List PItem} {id : Int} (h : (pIds l).Nodup) (hm : id ∈ pIds l) : (pout l id).length + 1 = l.length := by
  have := (nodup_filter_perm h hm).length_eq
  rw [← pout_ids] at this
  simp only [pIds, List.length_map, List.length_cons] at this
  omega

/-- One is put in. -/
def insF (f : PH) (x : PItem) : PH := { dl := upd f.dl x.id x.dl, sq := upd f.sq x.id x.sq, child := upd f.child x.id (-1), next := upd f.next x.id (-1), prev := upd f.prev x.id (-1), there := upd f.there x.id true }
theorem HI.insert {n : Nat} {l : List PItem} {f : PH} {root many : Int} {t : BT} (h : HI n l f root many t) {x : PItem} (h0 : 0 ≤ x.id ∧ x.id < n) (hx : x.id ∉ pIds l) :
    HI n (pput x l) (meldF (insF f x) root x.id).1 (meldF (insF f x) root x.id).2 (many + 1) (meldT (insF f x) t (.node x.id .nil .nil)) := by
  have hxt : x.id ∉ t.ids := fun e => hx (h.ids.mem_iff.1 e)
  have hne : ∀ i ∈ t.ids, i ≠ x.id := fun i hi e => hxt (e ▸ hi)
  have hit : ∀ i, i ≠ x.id → (insF f x).it i = f.it i := fun i hi => by simp [PH.it, insF, upd, hi]
  have hord : ∀ {t : BT}, (∀ i ∈ t.ids, i ≠ x.id) → Ord f t → Ord (insF f x) t := by
    intro t
    induction t with
    | nil => intro _ _; trivial
    | node i c nx ih1 ih2 =>
      rintro hne ⟨o1, o2, o3⟩
      refine ⟨fun z hz => ?_, ih1 (fun j hj => hne j (by simp [BT.ids, hj])) o2, ih2 (fun j hj => hne j (by simp [BT.ids, hj])) o3⟩
      rw [hit _ (hne i (by simp [BT.ids])), hit _ (hne z (by simp [BT.ids, hz]))]
      exact o1 z hz
  have ht : Tr (insF f x) t := ⟨h.tr.rep.congr fun i hi => ⟨upd_ne _ _ (hne i hi), upd_ne _ _ (hne i hi), upd_ne _ _ (hne i hi)⟩, h.tr.one, hord hne h.tr.ord, h.tr.nn⟩
  have hn : Tr (insF f x) (.node x.id .nil .nil) := ⟨⟨upd_same _ _ _, upd_same _ _ _, upd_same _ _ _, trivial, trivial⟩, trivial, ⟨fun z hz => by simp [BT.ids] at hz, trivial, trivial⟩, fun i hi => by simp [BT.ids] at hi; omega⟩
  have hnd : (t.ids ++ (BT.node x.id .nil .nil).ids).Nodup := by
    rw [List.nodup_append]
    refine ⟨h.tnd, by simp [BT.ids], fun a ha b hb e => ?_⟩
    simp [BT.ids] at hb
    subst hb e
    exact hxt ha
  obtain ⟨m1, m2, m3, m4⟩ := meld_tr ht hn hnd
  rw [h.root]
  change Tr (meldF (insF f x) t.root x.id).1 _ at m1
  change (meldF (insF f x) t.root x.id).2 = _ at m2
  change Mv (insF f x) (meldF (insF f x) t.root x.id).1 _ at m4
  have hpp := pput_perm x l
  have hids : (pIds (pput x l)).Perm (x.id :: pIds l) := hpp.map PItem.id
  refine ⟨m1, ?_, ?_, pput_sorted x l h.sorted hx, ?_, ?_, ?_, m2, ?_, ?_⟩
  · refine m3.trans (List.Perm.trans ?_ hids.symm)
    simp only [BT.ids, List.append_nil]
    exact (List.perm_append_singleton _ _).trans (h.ids.cons _)
  · exact hids.nodup_iff.2 (List.nodup_cons.2 ⟨hx, h.nodup⟩)
  · intro y hy
    rw [m4.it]
    rcases List.mem_cons.1 (hpp.mem_iff.1 hy) with rfl | hy
    · simp [PH.it, insF, upd]
    · rw [hit _ (fun e => hx (e ▸ List.mem_map.2 ⟨y, hy, rfl⟩))]; exact h.vals y hy
  · intro y hy
    rcases List.mem_cons.1 (hpp.mem_iff.1 hy) with rfl | hy
    · exact h0
    · exact h.range y hy
  · intro i g0 g1
    rw [m4.there, hids.mem_iff, List.mem_cons]
    show upd f.there x.id true i = true ↔ _
    by_cases e : i = x.id
    · subst e; simp [upd_same]
    · rw [upd_ne _ _ e, h.there i g0 g1]; simp [e]
  · rw [h.many, hpp.length_eq]; simp
  · have hb : Bd n (insF f x) := fun i g0 g1 => by
      obtain ⟨a, b, c⟩ := h.bd i g0 g1
      exact ⟨upd_in (by omega) a, upd_in (by omega) b, upd_in (by omega) c⟩
    refine (hb.meld ?_ (by omega)).1
    rcases t.root_mem with ⟨e, _⟩ | e
    · omega
    · obtain ⟨y, hy, e⟩ := List.mem_map.1 (h.ids.mem_iff.1 e)
      have := h.range y hy
      omega

/-- One is taken out: the links before and behind; what its children were put together to. -/
def zeroF (f : PH) (id : Int) : PH := { dl := upd f.dl id 0, sq := upd f.sq id 0, child := upd f.child id 0, next := upd f.next id 0, prev := upd f.prev id 0, there := upd f.there id false }
theorem HI.out {n : Nat} {l : List PItem} {f g k : PH} {root many : Int} {t u gt : BT} {id : Int} (h : HI n l f root many t) (hid : id ∈ pIds l)
    (hu : Tr g u) (hg : Tr k gt) (hfg : ∀ i, g.it i = f.it i) (hth : g.there = f.there) (hmv : Mv g k gt.ids) (hperm : t.ids.Perm (u.ids ++ id :: gt.ids)) (hb : Bd n k) (hn : 1 ≤ n) :
    HI n (pout l id) (zeroF (meldF k u.root gt.root).1 id) (meldF k u.root gt.root).2 (many - 1) (meldT k u gt) := by
  have hnd : (u.ids ++ id :: gt.ids).Nodup := hperm.nodup_iff.1 h.tnd
  have hnd2 : (u.ids ++ gt.ids).Nodup := by
    have : (id :: (u.ids ++ gt.ids)).Nodup := (List.perm_middle.nodup_iff).1 hnd
    exact (List.nodup_cons.1 this).2
  have hnot : id ∉ u.ids ++ gt.ids := by
    have : (id :: (u.ids ++ gt.ids)).Nodup := (List.perm_middle.nodup_iff).1 hnd
    exact (List.nodup_cons.1 this).1
  have hu' : Tr k u := hu.mv hmv fun i hi e => by
    rw [List.nodup_append] at hnd2
    exact hnd2.2.2 i hi i e rfl
  obtain ⟨m1, m2, m3, m4⟩ := meld_tr hu' hg hnd2
  have hidT : ∀ i ∈ (meldT k u gt).ids, i ≠ id := fun i hi e => hnot (m3.mem_iff.1 (e ▸ hi))
  have hitK : ∀ i, (meldF k u.root gt.root).1.it i = f.it i := fun i => by rw [m4.it, hmv.it]; exact hfg i
  have hitZ : ∀ i, i ≠ id → (zeroF (meldF k u.root gt.root).1 id).it i = f.it i := fun i hi => by
    rw [← hitK]; simp [PH.it, zeroF, upd, hi]
  have hord : ∀ {t : BT}, (∀ i ∈ t.ids, i ≠ id) → Ord (meldF k u.root gt.root).1 t → Ord (zeroF (meldF k u.root gt.root).1 id) t := by
    intro t
    induction t with
    | nil => intro _ _; trivial
    | node i c nx ih1 ih2 =>
      rintro hne ⟨o1, o2, o3⟩
      refine ⟨fun z hz => ?_, ih1 (fun j hj => hne j (by simp [BT.ids, hj])) o2, ih2 (fun j hj => hne j (by simp [BT.ids, hj])) o3⟩
      have := o1 z hz
      rw [hitK, hitK] at this
      rw [hitZ _ (hne i (by simp [BT.ids])), hitZ _ (hne z (by simp [BT.ids, hz]))]
      exact this
  have hfil := nodup_filter_perm h.nodup hid
  have hpi : (id :: (meldT k u gt).ids).Perm (id :: pIds (pout l id)) := by
    rw [pout_ids]
    exact ((m3.cons id).trans (List.perm_middle.symm.trans (hperm.symm.trans h.ids))).trans hfil
  have hu1 : -1 ≤ u.root ∧ u.root < n := by
    rcases u.root_mem with ⟨e, _⟩ | e
    · omega
    · obtain ⟨y, hy, e⟩ := List.mem_map.1 (h.ids.mem_iff.1 (hperm.mem_iff.2 (List.mem_append.2 (.inl e))))
      have := h.range y hy
      omega
  have hg1 : -1 ≤ gt.root ∧ gt.root < n := by
    rcases gt.root_mem with ⟨e, _⟩ | e
    · omega
    · obtain ⟨y, hy, e⟩ := List.mem_map.1 (h.ids.mem_iff.1 (hperm.mem_iff.2 (List.mem_append.2 (.inr (List.mem_cons.2 (.inr e))))))
      have := h.range y hy
      omega
  have hbm := (hb.meld hu1 hg1).1
  refine ⟨⟨m1.rep.congr fun i hi => ⟨upd_ne _ _ (hidT i hi), upd_ne _ _ (hidT i hi), upd_ne _ _ (hidT i hi)⟩, m1.one, hord hidT m1.ord, m1.nn⟩, (List.perm_cons id).1 hpi, ?_, ?_, ?_, ?_, ?_, m2, ?_, ?_⟩
  · rw [pout_ids]; exact h.nodup.filter _
  · exact h.sorted.filter _
  · intro y hy
    obtain ⟨h1, h2⟩ := mem_pout.1 hy
    rw [hitZ _ h2]; exact h.vals y h1
  · intro y hy; exact h.range y (mem_pout.1 hy).1
  · intro i g0 g1
    rw [mem_pout_ids]
    show upd (meldF k u.root gt.root).1.there id false i = true ↔ _
    rw [m4.there, hmv.there, hth]
    by_cases e : i = id
    · subst e; simp [upd_same]
    · rw [upd_ne _ _ e, h.there i g0 g1]; simp [e]
  · rw [h.many]
    have := pout_len h.nodup hid
    omega
  · intro i g0 g1
    obtain ⟨a, b, c⟩ := hbm i g0 g1
    exact ⟨upd_in (by omega) a, upd_in (by omega) b, upd_in (by omega) c⟩
end Go.Proofs

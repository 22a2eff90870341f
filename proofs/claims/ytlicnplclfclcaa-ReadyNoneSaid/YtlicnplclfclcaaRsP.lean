/- What is ready, as a queue of levels and a heap of deadlines hold it: both together stand for one list in order. No program stands here. -/
import Derived.Test.YtlicnplclfclcaaRsL
import Derived.Test.YtlicnplclfclcaaPhL
import Derived.Test.YtlicnplclfclcaaBqL
namespace Go.Proofs
open Go Go.Gx

def kE (x : KItem) : Bool := x.k.edf
def kL (v : Int) (x : KItem) : Bool := !x.k.edf && decide (x.k.lv = v)
def kN (x : KItem) : Bool := !x.k.edf

structure RdI (n : Nat) (l : List KItem) (lq : List RItem) (lh : List PItem) (seq : Int) : Prop where
  ok : KOk n l
  heap : lh.map (fun x => (x.id, x.dl)) = (l.filter kE).map fun x => (x.id, x.k.dl)
  seqs : ∀ x ∈ lh, x.sq ≤ seq
  queue : ∀ v, rIds lq v = (l.filter (kL v)).map KItem.id
  qlen : lq.length = (l.filter kN).length

variable {n : Nat} {l : List KItem} {lq : List RItem} {lh : List PItem} {seq : Int}
theorem RdI.hIds (h : RdI n l lq lh seq) : pIds lh = kIds (l.filter kE) := by
  have := congrArg (List.map Prod.fst) h.heap
  rw [List.map_map, List.map_map] at this
  exact this
theorem RdI.hmem (h : RdI n l lq lh seq) {id : Int} : id ∈ pIds lh ↔ ∃ x ∈ l, x.k.edf = true ∧ x.id = id := by
  rw [h.hIds, kIds, List.mem_map]
  constructor
  · rintro ⟨x, hx, e⟩
    obtain ⟨a, b⟩ := List.mem_filter.1 hx
    exact ⟨x, a, b, e⟩
  · rintro ⟨x, hx, a, e⟩
    exact ⟨x, List.mem_filter.2 ⟨hx, a⟩, e⟩
theorem RdI.qmem (h : RdI n l lq lh seq) {id : Int} : id ∈ lq.map RItem.id ↔ ∃ x ∈ l, x.k.edf = false ∧ x.id = id := by
  constructor
  · intro hm
    obtain ⟨y, hy, rfl⟩ := List.mem_map.1 hm
    have : y.id ∈ rIds lq y.lv := mem_rIds.2 ⟨y, hy, rfl, rfl⟩
    rw [h.queue] at this
    obtain ⟨x, hx, e⟩ := List.mem_map.1 this
    obtain ⟨a, b⟩ := List.mem_filter.1 hx
    simp only [kL, Bool.and_eq_true, Bool.not_eq_eq_eq_not, Bool.not_true, decide_eq_true_eq] at b
    exact ⟨x, a, b.1, e⟩
  · rintro ⟨x, hx, a, rfl⟩
    have : x.id ∈ (l.filter (kL x.k.lv)).map KItem.id := List.mem_map.2 ⟨x, List.mem_filter.2 ⟨hx, by simp [kL, a]⟩, rfl⟩
    rw [← h.queue] at this
    obtain ⟨y, hy, _, e⟩ := mem_rIds.1 this
    exact List.mem_map.2 ⟨y, hy, e⟩
theorem RdI.mem (h : RdI n l lq lh seq) {id : Int} : id ∈ kIds l ↔ id ∈ pIds lh ∨ id ∈ lq.map RItem.id := by
  rw [h.hmem, h.qmem, kIds, List.mem_map]
  constructor
  · rintro ⟨x, hx, e⟩
    cases he : x.k.edf with
    | true => exact .inl ⟨x, hx, he, e⟩
    | false => exact .inr ⟨x, hx, he, e⟩
  · rintro (⟨x, hx, _, e⟩ | ⟨x, hx, _, e⟩)
    · exact ⟨x, hx, e⟩
    · exact ⟨x, hx, e⟩
theorem RdI.both (h : RdI n l lq lh seq) {id : Int} (h1 : id ∈ pIds lh) (h2 : id ∈ lq.map RItem.id) : False := by
  obtain ⟨x, hx, a, e⟩ := h.hmem.1 h1
  obtain ⟨y, hy, b, g⟩ := h.qmem.1 h2
  have := kid_inj h.ok.nodup hx hy (e.trans g.symm)
  subst this
  rw [a] at b
  cases b
theorem split_len {α : Type} (p : α → Bool) : ∀ (l : List α), (l.filter p).length + (l.filter fun x => !p x).length = l.length
  | [] => rfl
  | x :: l => by
    have := split_len p l
    rw [List.filter_cons, List.filter_cons]
    cases p x <;> simp <;> omega
theorem RdI.len (h : RdI n l lq lh seq) : lq.length + lh.length = l.length := by
  have h1 : lh.length = (l.filter kE).length := by
    have := congrArg List.length h.heap
    simpa using this
  have h2 := split_len kE l
  have h3 := h.qlen
  have e : kN = fun x => !kE x := rfl
  rw [e] at h3
  omega
theorem RdI.nil : RdI n [] [] [] 0 := ⟨KOk.nil, rfl, by simp, fun v => rfl, rfl⟩

/-- All ids, in order. -/
theorem RdI.listed (h : RdI n l lq lh seq) : kIds l = pIds lh ++ (List.range 256).flatMap fun (j : Nat) => rIds lq (255 - j) := by
  have hc : l.Pairwise fun a b => kClass a.k ≤ kClass b.k := List.pairwise_iff_getElem.2 fun i j hi hj hij => kClass_le (h.ok.ok _ (List.getElem_mem hi)) (h.ok.ok _ (List.getElem_mem hj)) (List.pairwise_iff_getElem.1 h.ok.sorted i j hi hj hij)
  have h0 : ∀ x ∈ l, 0 ≤ kClass x.k := fun x hx => by
    have := (h.ok.ok x hx).2
    unfold kClass; split <;> omega
  have hall : l.filter (fun x => decide (kClass x.k < ((257 : Nat) : Int))) = l := by
    rw [List.filter_eq_self]
    intro x hx
    have := (h.ok.ok x hx).2
    refine decide_eq_true ?_
    unfold kClass; split <;> omega
  have hsp := classes_upto (c := fun x => kClass x.k) hc h0 257
  rw [hall] at hsp
  have e0 : l.filter (fun x => decide (kClass x.k = ((0 : Nat) : Int))) = l.filter kE := by
    apply List.filter_congr
    intro x hx
    have := (h.ok.ok x hx).2
    unfold kClass kE
    cases x.k.edf with
    | true => rfl
    | false => simp; omega
  have e1 : ∀ (j : Nat), l.filter (fun x => decide (kClass x.k = ((j + 1 : Nat) : Int))) = l.filter (kL (255 - j)) := fun j => by
    apply List.filter_congr
    intro x hx
    unfold kClass kL
    cases x.k.edf with
    | true => simp; omega
    | false =>
      simp only [Bool.not_false, Bool.true_and, Bool.false_eq_true, if_false]
      exact decide_eq_decide.2 (by omega)
  have hr : List.range 257 = 0 :: (List.range 256).map Nat.succ := List.range_succ_eq_map
  rw [hr, List.flatMap_cons, e0, List.flatMap_map] at hsp
  have h2 : ((List.range 256).flatMap fun a => l.filter fun x => decide (kClass x.k = ((Nat.succ a : Nat) : Int))) = (List.range 256).flatMap fun (j : Nat) => l.filter (kL (255 - j)) := by
    congr 1
    funext j
    exact e1 j
  rw [h2] at hsp
  have h3 : kIds l = kIds (l.filter kE ++ (List.range 256).flatMap fun (j : Nat) => l.filter (kL (255 - j))) := by rw [← hsp]
  rw [h3, kIds, List.map_append, h.hIds, kIds, List.map_flatMap]
  congr 1
  congr 1
  funext j
  exact (h.queue _).symm

/-! ### one more, one less -/
theorem heap_put {id d : Int} {lv : Int} (h0 : ∀ x ∈ lh, x.sq ≤ seq) : ∀ {lh : List PItem} {le : List KItem}, (∀ x ∈ lh, x.sq ≤ seq) → (∀ x ∈ le, x.k.edf = true) → lh.map (fun x => (x.id, x.dl)) = le.map (fun x => (x.id, x.k.dl)) →
    (pput ⟨id, d, seq + 1⟩ lh).map (fun x => (x.id, x.dl)) = (kput ⟨id, ⟨true, d, lv⟩⟩ le).map fun x => (x.id, x.k.dl)
  | [], [], _, _, _ => rfl
  | [], _ :: _, _, _, h => by simp at h
  | _ :: _, [], _, _, h => by simp at h
  | y :: t, z :: u, h1, h2, h => by
    simp only [List.map_cons, List.cons.injEq, Prod.mk.injEq] at h
    have hz := h2 z (by simp)
    have hy := h1 y (by simp)
    have hd : PItem.lt ⟨id, d, seq + 1⟩ y ↔ kAbove ⟨true, d, lv⟩ z.k = true := by
      unfold PItem.lt kAbove
      rw [hz]
      simp only [Bool.and_true, if_true, decide_eq_true_eq, ← h.1.2]
      omega
    unfold pput kput
    by_cases hlt : PItem.lt ⟨id, d, seq + 1⟩ y
    · rw [if_pos hlt, if_pos (hd.1 hlt)]
      simp [h]
    · rw [if_neg hlt, if_neg (fun e => hlt (hd.2 e))]
      rw [List.map_cons, List.map_cons, heap_put (lv := lv) h0 (fun x hx => h1 x (by simp [hx])) (fun x hx => h2 x (by simp [hx])) h.2]
      simp [h.1]
theorem RdI.putH (h : RdI n l lq lh seq) {id : Int} {k : KKey} (h0 : 0 ≤ id ∧ id < n) (hr : kRight k = true) (ho : k.ok) (hx : id ∉ kIds l) (he : k.edf = true) :
    RdI n (kput ⟨id, k⟩ l) lq (pput ⟨id, k.dl, seq + 1⟩ lh) (seq + 1) := by
  refine ⟨h.ok.put (x := ⟨id, k⟩) h0 hr ho hx, ?_, ?_, fun v => ?_, ?_⟩
  · rw [kput_filter_in (x := ⟨id, k⟩) (p := kE) he h.ok.sorted]
    obtain ⟨e, d, v⟩ := k
    simp only at he
    subst he
    exact heap_put h.seqs h.seqs (fun x hx => (List.mem_filter.1 hx).2) h.heap
  · intro x hx
    rcases List.mem_cons.1 ((pput_perm _ lh).mem_iff.1 hx) with rfl | hx
    · exact Int.le_refl _
    · have := h.seqs x hx; omega
  · rw [kput_filter_out (x := ⟨id, k⟩) (p := kL v) (by simp [kL, he])]
    exact h.queue v
  · rw [kput_filter_out (x := ⟨id, k⟩) (p := kN) (by simp [kN, he])]
    exact h.qlen
theorem RdI.putQ (h : RdI n l lq lh seq) {id : Int} {k : KKey} (h0 : 0 ≤ id ∧ id < n) (hr : kRight k = true) (ho : k.ok) (hx : id ∉ kIds l) (he : k.edf = false) :
    RdI n (kput ⟨id, k⟩ l) (lq ++ [⟨id, k.lv⟩]) lh seq := by
  refine ⟨h.ok.put (x := ⟨id, k⟩) h0 hr ho hx, ?_, h.seqs, fun v => ?_, ?_⟩
  · rw [kput_filter_out (x := ⟨id, k⟩) (p := kE) he]
    exact h.heap
  · rw [rIds_snoc, h.queue v]
    by_cases hv : k.lv = v
    · rw [if_pos hv, kput_filter_in (x := ⟨id, k⟩) (p := kL v) (by simp [kL, he, hv]) h.ok.sorted]
      rw [kput_back]
      · simp
      · intro y hy
        have := (List.mem_filter.1 hy).2
        simp only [kL, Bool.and_eq_true, Bool.not_eq_eq_eq_not, Bool.not_true, decide_eq_true_eq] at this
        unfold kAbove
        rw [he, this.1]
        simp; omega
    · rw [if_neg hv, List.append_nil, kput_filter_out (x := ⟨id, k⟩) (p := kL v) (by simp [kL, hv])]
  · rw [kput_filter_in (x := ⟨id, k⟩) (p := kN) (by simp [kN, he]) h.ok.sorted, kput_len, List.length_append, h.qlen]; rfl
theorem filter_kout (l : List KItem) (id : Int) (p : KItem → Bool) : (kout l id).filter p = kout (l.filter p) id := by
  unfold kout
  rw [List.filter_filter, List.filter_filter]
  congr 1
  funext x
  exact Bool.and_comm _ _
theorem RdI.outQ (h : RdI n l lq lh seq) {id : Int} (hq : id ∈ lq.map RItem.id) (hnd : (lq.map RItem.id).Nodup) : RdI n (kout l id) (rWithout lq id) lh seq := by
  have hno : id ∉ pIds lh := fun e => h.both e hq
  refine ⟨h.ok.out id, ?_, h.seqs, fun v => ?_, ?_⟩
  · rw [filter_kout, kout_not]
    · exact h.heap
    · rw [← h.hIds]; exact hno
  · rw [rIds_without, h.queue v, filter_kout, ← kIds, ← kIds, kout_ids]
  · rw [filter_kout]
    obtain ⟨x, hx, a, rfl⟩ := h.qmem.1 hq
    have h1 := kout_len (l := l.filter kN) (id := x.id) (by
      unfold kIds
      exact (List.Sublist.map KItem.id (List.filter_sublist (l := l) (p := kN))).nodup h.ok.nodup) (List.mem_map.2 ⟨x, List.mem_filter.2 ⟨hx, by simp [kN, a]⟩, rfl⟩)
    have h2 : (rWithout lq x.id).length + 1 = lq.length := by
      obtain ⟨y, hy, e⟩ := List.mem_map.1 hq
      have h3 := erase_filter (f := RItem.id) hnd hq
      have h4 : (lq.eraseIdx (ixOf (lq.map RItem.id) x.id).toNat).length = lq.length - 1 := by
        rw [List.length_eraseIdx, if_pos]
        have h5 := ixOf_range (lq.map RItem.id) x.id
        have h6 := ixOf_mem.2 hq
        rw [List.length_map] at h5
        omega
      rw [h3] at h4
      have : 0 < lq.length := List.length_pos_of_mem hy
      unfold rWithout
      omega
    have := h.qlen
    omega
theorem map_pout (lh : List PItem) (id : Int) : (pout lh id).map (fun x => (x.id, x.dl)) = (lh.map fun x => (x.id, x.dl)).filter fun p => decide (p.1 ≠ id) := by
  unfold pout
  rw [List.filter_map]; rfl
theorem map_koutD (l : List KItem) (id : Int) : (kout l id).map (fun x => (x.id, x.k.dl)) = (l.map fun x => (x.id, x.k.dl)).filter fun p => decide (p.1 ≠ id) := by
  unfold kout
  rw [List.filter_map]; rfl
theorem RdI.outH (h : RdI n l lq lh seq) {id : Int} (hh : id ∈ pIds lh) : RdI n (kout l id) lq (pout lh id) seq := by
  have hno : id ∉ lq.map RItem.id := fun e => h.both hh e
  refine ⟨h.ok.out id, ?_, fun x hx => h.seqs x (mem_pout.1 hx).1, fun v => ?_, ?_⟩
  · rw [filter_kout, map_koutD, map_pout, h.heap]
  · rw [filter_kout, kout_not, h.queue v]
    intro e
    rw [kIds, ← h.queue v] at e
    obtain ⟨y, hy, _, e⟩ := mem_rIds.1 e
    exact hno (List.mem_map.2 ⟨y, hy, e⟩)
  · rw [filter_kout, kout_not]
    · exact h.qlen
    · intro e
      obtain ⟨x, hx, e⟩ := List.mem_map.1 e
      obtain ⟨a, b⟩ := List.mem_filter.1 hx
      exact hno (h.qmem.2 ⟨x, a, by simpa [kN] using b, e⟩)

/-! ### the first one -/
theorem RdI.topH (h : RdI n l lq lh seq) {y : PItem} {t : List PItem} (e : lh = y :: t) : kTopId l = y.id ∧ kTopK l = kDead y.dl ∧ kTopOk l = true ∧ l ≠ [] := by
  subst e
  have hh := h.heap
  cases l with
  | nil => simp at hh
  | cons x l =>
    have hx : x.k.edf = true := by
      cases he : x.k.edf with
      | true => rfl
      | false =>
        rw [List.filter_cons, if_neg (by simp [kE, he])] at hh
        obtain ⟨z, hz, _⟩ : ∃ z ∈ l.filter kE, True := by
          cases hf : l.filter kE with
          | nil => rw [hf] at hh; simp at hh
          | cons z u => exact ⟨z, by simp, trivial⟩
        obtain ⟨a, b⟩ := List.mem_filter.1 hz
        have h1 := (List.pairwise_cons.1 h.ok.sorted).1 z a
        unfold kAbove at h1
        rw [he, show z.k.edf = true from b] at h1
        simp at h1
    rw [List.filter_cons, if_pos (show kE x = true from hx)] at hh
    simp only [List.map_cons, List.cons.injEq, Prod.mk.injEq] at hh
    have hr := kRight_iff.1 (h.ok.right x (by simp))
    refine ⟨hh.1.1.symm, ?_, rfl, by simp⟩
    show x.k = _
    rw [hh.1.2]
    rcases hr with e | e
    · exact e
    · rw [e] at hx; cases hx
theorem RdI.topQ (h : RdI n l lq lh seq) (e : lh = []) (hnd : (lq.map RItem.id).Nodup) : topOk lq = kTopOk l ∧ (topOk lq = true → kTopId l = topId lq ∧ kTopK l = kFixed (topLv lq)) := by
  subst e
  have hne : ∀ x ∈ l, x.k.edf = false := fun x hx => by
    cases he : x.k.edf with
    | false => rfl
    | true =>
      have hh := h.heap
      have hm : x ∈ l.filter kE := List.mem_filter.2 ⟨hx, he⟩
      cases hf : l.filter kE with
      | nil => rw [hf] at hm; cases hm
      | cons z u => rw [hf] at hh; simp at hh
  cases l with
  | nil =>
    have h1 := h.qlen
    have h2 : lq = [] := List.length_eq_zero_iff.1 (by simpa using h1)
    subst h2
    exact ⟨rfl, fun e => by cases e⟩
  | cons x l =>
    have hx := hne x (by simp)
    have hmax : ∀ y ∈ x :: l, y.k.lv ≤ x.k.lv := fun y hy => by
      rcases List.mem_cons.1 hy with rfl | hy
      · exact Int.le_refl _
      · have h1 := (List.pairwise_cons.1 h.ok.sorted).1 y hy
        unfold kAbove at h1
        rw [hx, hne y (by simp [hy])] at h1
        simpa using h1
    have hq : rIds lq x.k.lv = x.id :: ((l.filter (kL x.k.lv)).map KItem.id) := by
      rw [h.queue, List.filter_cons, if_pos (by simp [kL, hx])]; rfl
    rcases rtop_spec lq with ⟨e, _⟩ | ⟨i, hi, h1, h2⟩
    · subst e; simp [rIds] at hq
    · have h0 : ¬ rtop lq < 0 := by omega
      have hg : rget lq (rtop lq) = lq[i] := by rw [h1, rget]; simp [hi]
      have hlv : topLv lq = lq[i].lv := by rw [topLv, if_neg h0, hg]
      have hid : topId lq = lq[i].id := by rw [topId, if_neg h0, hg]
      have hok : topOk lq = true := by rw [topOk]; simpa using h0
      have a1 : x.k.lv ≤ lq[i].lv := by
        have : x.id ∈ rIds lq x.k.lv := by rw [hq]; simp
        obtain ⟨y, hy, e1, _⟩ := mem_rIds.1 this
        obtain ⟨j, hj, rfl⟩ := List.getElem_of_mem hy
        have := (h2 j hj).1
        omega
      have a2 : lq[i].lv ≤ x.k.lv := by
        have : lq[i].id ∈ rIds lq lq[i].lv := mem_rIds.2 ⟨lq[i], List.getElem_mem _, rfl, rfl⟩
        rw [h.queue] at this
        obtain ⟨z, hz, _⟩ := List.mem_map.1 this
        obtain ⟨g1, g2⟩ := List.mem_filter.1 hz
        simp only [kL, Bool.and_eq_true, decide_eq_true_eq] at g2
        have := hmax z g1
        omega
      have a3 : lq[i].lv = x.k.lv := by omega
      have hr := kRight_iff.1 (h.ok.right x (by simp))
      refine ⟨hok, fun _ => ⟨?_, ?_⟩⟩
      · have hsp : lq = lq.take i ++ lq[i] :: lq.drop (i + 1) := by rw [← List.drop_eq_getElem_cons hi, List.take_append_drop]
        have hA : ∀ y ∈ lq.take i, ¬ y.lv = x.k.lv := fun y hy e => by
          obtain ⟨j, hj, rfl⟩ := List.getElem_of_mem hy
          simp only [List.length_take] at hj
          have := (h2 j (by omega)).2 (by omega)
          rw [List.getElem_take] at e
          omega
        have h3 : rIds lq x.k.lv = rIds (lq.take i ++ lq[i] :: lq.drop (i + 1)) x.k.lv := by rw [← hsp]
        rw [hq] at h3
        unfold rIds at h3
        have hnil : (lq.take i).filter (fun y => decide (y.lv = x.k.lv)) = [] := List.filter_eq_nil_iff.2 (fun y hy => by simpa using hA y hy)
        have hcons : (lq[i] :: lq.drop (i + 1)).filter (fun y => decide (y.lv = x.k.lv)) = lq[i] :: (lq.drop (i + 1)).filter (fun y => decide (y.lv = x.k.lv)) := by rw [List.filter_cons, if_pos (by simpa using a3)]
        rw [List.filter_append, hnil, hcons] at h3
        simp only [List.nil_append, List.map_cons, List.cons.injEq] at h3
        rw [hid]; exact h3.1
      · show x.k = _
        rw [hlv, a3]
        rcases hr with e | e
        · rw [e] at hx; cases hx
        · exact e
end Go.Proofs

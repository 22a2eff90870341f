/- What a queue of levels and a heap of deadlines together tell of an id. No program stands here. -/
import Derived.Test.YtlicnplclfclcaaRsP
namespace Go.Proofs
open Go Go.Gx
variable {n : Nat} {l : List KItem} {lq : List RItem} {lh : List PItem} {seq : Int}

theorem RdI.getH (h : RdI n l lq lh seq) {id : Int} (hp : id ∈ pIds lh) (hnd : (pIds lh).Nodup) : kGetK l id = kDead (pGetD lh id) ∧ kGetOk l id = true := by
  obtain ⟨y, hy, rfl⟩ := List.mem_map.1 hp
  have hd : pGetD lh y.id = y.dl := by rw [pGetD, pGet?_some hnd hy]; rfl
  have hm : (y.id, y.dl) ∈ lh.map fun x => (x.id, x.dl) := List.mem_map.2 ⟨y, hy, rfl⟩
  rw [h.heap] at hm
  obtain ⟨x, hx, e⟩ := List.mem_map.1 hm
  obtain ⟨hx, he⟩ := List.mem_filter.1 hx
  simp only [Prod.mk.injEq] at e
  have hk := kGetK_some h.ok.nodup hx
  rw [e.1] at hk
  rw [hk.1, hd, ← e.2]
  refine ⟨?_, hk.2⟩
  rcases kRight_iff.1 (h.ok.right x hx) with g | g
  · exact g
  · have he : x.k.edf = true := he
    rw [g] at he; cases he
theorem RdI.getQ (h : RdI n l lq lh seq) {id : Int} (hp : id ∈ lq.map RItem.id) (hnd : (lq.map RItem.id).Nodup) : kGetK l id = kFixed (levLv lq id) ∧ kGetOk l id = true := by
  obtain ⟨y, hy, rfl⟩ := List.mem_map.1 hp
  have hm : y.id ∈ rIds lq y.lv := mem_rIds.2 ⟨y, hy, rfl, rfl⟩
  rw [h.queue] at hm
  obtain ⟨x, hx, e⟩ := List.mem_map.1 hm
  obtain ⟨hx, he⟩ := List.mem_filter.1 hx
  simp only [kL, Bool.and_eq_true, Bool.not_eq_eq_eq_not, Bool.not_true, decide_eq_true_eq] at he
  have hk := kGetK_some h.ok.nodup hx
  rw [e] at hk
  have hl : levLv lq y.id = y.lv := by
    obtain ⟨i, hi, rfl⟩ := List.getElem_of_mem hy
    have hr := rat_get hnd hi
    rw [levLv, if_neg (by omega), hr, rget]; simp [hi]
  rw [hk.1, hl, ← he.2]
  refine ⟨?_, hk.2⟩
  rcases kRight_iff.1 (h.ok.right x hx) with g | g
  · rw [g] at he; cases he.1
  · exact g

/-- The ids that a walk over the levels has told of. -/
def rdPre (lq : List RItem) (lh : List PItem) (j : Nat) : List Int := pIds lh ++ (List.range j).flatMap fun (j : Nat) => rIds lq (255 - j)
theorem rdPre_succ (lq : List RItem) (lh : List PItem) (j : Nat) : rdPre lq lh (j + 1) = rdPre lq lh j ++ rIds lq (255 - j) := by
  unfold rdPre
  rw [List.range_succ, List.flatMap_append, ← List.append_assoc]
  simp
theorem rdPre_mono (lq : List RItem) (lh : List PItem) (j k : Nat) : (rdPre lq lh j).length ≤ (rdPre lq lh (j + k)).length := by
  induction k with
  | zero => exact Nat.le_refl _
  | succ k ih =>
    rw [show j + (k + 1) = (j + k) + 1 by omega, rdPre_succ, List.length_append]
    omega
theorem RdI.pre_len (h : RdI n l lq lh seq) {j : Nat} (hj : j ≤ 256) : (rdPre lq lh j).length ≤ n := by
  have h1 := rdPre_mono lq lh j (256 - j)
  rw [show j + (256 - j) = 256 by omega] at h1
  have h2 : rdPre lq lh 256 = kIds l := h.listed.symm
  rw [h2] at h1
  have := h.ok.lenLe
  simp only [kIds, List.length_map] at h1
  omega
theorem rIds_leLen (l : List RItem) (v : Int) : (rIds l v).length ≤ l.length := by
  rw [rIds, List.length_map]; exact List.length_filter_le _ _
end Go.Proofs

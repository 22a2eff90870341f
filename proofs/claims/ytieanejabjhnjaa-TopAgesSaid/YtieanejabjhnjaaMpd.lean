/- Part 4 of the proof engine and of what the functions come to. No condition. -/
import Derived.Test.YtieanejabjhnjaaMpc
/- What a queue of levels and a heap of deadlines together tell of an id. No program stands here. -/
namespace Go.Proofs
open Go Go.Gx
variable {n : Nat} {l : List KItem} {lq : List RItem} {lh : List PItem} {seq : Int}

theorem RdI.getH (h : RdI n l lq lh seq) {id : Int} (hp : id ∈ pIds lh) (hnd : (pIds lh).Nodup) : kGetK l id = kDead (pGetD lh id) ∧ kGetOk l id = true := by
  obtain ⟨y, hy, rfl⟩ := List.mem_map.1 hp
  have hd : pGetD lh y.id = y.dl := by rw [pGetD, pGet?_some hnd hy]; rfl
  have hm : (y.id, y.dl) ∈ lh.map fun x => (x.id, x.dl) := List.mem_map.2 ⟨y, hy, rfl⟩
  rw [h.heap] at hm
  obtain ⟨x, hx, e⟩ := List.mem_map.1 hm
  obtain ⟨hx, he⟩ := List.mem_filter.1 hx
  simp only [Prod.mk.injEq] at e
  have hk := kGetK_some h.ok.nodup hx
  rw [e.1] at hk
  rw [hk.1, hd, ← e.2]
  refine ⟨?_, hk.2⟩
  rcases kRight_iff.1 (h.ok.right x hx) with g | g
  · exact g
  · have he : x.k.edf = true := he
    rw [g] at he; cases he
theorem RdI.getQ (h : RdI n l lq lh seq) {id : Int} (hp : id ∈ lq.map RItem.id) (hnd : (lq.map RItem.id).Nodup) : kGetK l id = kFixed (levLv lq id) ∧ kGetOk l id = true := by
  obtain ⟨y, hy, rfl⟩ := List.mem_map.1 hp
  have hm : y.id ∈ rIds lq y.lv := mem_rIds.2 ⟨y, hy, rfl, rfl⟩
  rw [h.queue] at hm
  obtain ⟨x, hx, e⟩ := List.mem_map.1 hm
  obtain ⟨hx, he⟩ := List.mem_filter.1 hx
  simp only [kL, Bool.and_eq_true, Bool.not_eq_eq_eq_not, Bool.not_true, decide_eq_true_eq] at he
  have hk := kGetK_some h.ok.nodup hx
  rw [e] at hk
  have hl : levLv lq y.id = y.lv := by
    obtain ⟨i, hi, rfl⟩ := List.getElem_of_mem hy
    have hr := rat_get hnd hi
    rw [levLv, if_neg (by omega), hr, rget]; simp [hi]
  rw [hk.1, hl, ← he.2]
  refine ⟨?_, hk.2⟩
  rcases kRight_iff.1 (h.ok.right x hx) with g | g
  · rw [g] at he; cases he.1
  · exact g

/-- The ids that a walk over the levels has told of. -/
def rdPre (lq : List RItem) (lh : List PItem) (j : Nat) : List Int := pIds lh ++ (List.range j).flatMap fun (j : Nat) => rIds lq (255 - j)
theorem rdPre_succ (lq : List RItem) (lh : List PItem) (j : Nat) : rdPre lq lh (j + 1) = rdPre lq lh j ++ rIds lq (255 - j) := by
  unfold rdPre
  rw [List.range_succ, List.flatMap_append, ← List.append_assoc]
  simp
theorem rdPre_mono (lq : List RItem) (lh : List PItem) (j k : Nat) : (rdPre lq lh j).length ≤ (rdPre lq lh (j + k)).length := by
  induction k with
  | zero => exact Nat.le_refl _
  | succ k ih =>
    rw [show j + (k + 1) = (j + k) + 1 by omega, rdPre_succ, List.length_append]
    omega
theorem RdI.pre_len (h : RdI n l lq lh seq) {j : Nat} (hj : j ≤ 256) : (rdPre lq lh j).length ≤ n := by
  have h1 := rdPre_mono lq lh j (256 - j)
  rw [show j + (256 - j) = 256 by omega] at h1
  have h2 : rdPre lq lh 256 = kIds l := h.listed.symm
  rw [h2] at h1
  have := h.ok.lenLe
  simp only [kIds, List.length_map] at h1
  omega
theorem rIds_leLen (l : List RItem) (v : Int) : (rIds l v).length ≤ l.length := by
  rw [rIds, List.length_map]; exact List.length_filter_le _ _
end Go.Proofs

/- The queue of levels in memory: its cells, and what its functions read and write. -/
namespace Go.Proofs
open Go Go.Gx
variable {oo : World}

theorem wr1_get {c : Array Value} {k : Nat} (hk : k < c.size) (v : Value) (i : Nat) : (wr c k [v]).toList[i]? = if i = k then some v else c.toList[i]? := by
  have := wr_get [v] c k i (by simp only [List.length_singleton]; omega)
  rw [Array.getElem?_toList, this]
  by_cases h : i = k
  · subst h; simp
  · rw [if_neg (by simp only [List.length_singleton]; omega), if_neg h, Array.getElem?_toList]

structure QC (first last W : Int → Int) (many : Int) (s : Value) (c : Array Value) : Prop where
  size : c.size = 518
  links : c.toList[0]? = some s
  first : ∀ v : Int, 0 ≤ v → v ≤ 255 → c.toList[0 + 1 + v.toNat * 1]? = some (.int .i64 (first v))
  last : ∀ v : Int, 0 ≤ v → v ≤ 255 → c.toList[0 + 257 + v.toNat * 1]? = some (.int .i64 (last v))
  mask : ∀ i : Int, 0 ≤ i → i < 4 → c.toList[0 + 513 + i.toNat * 1]? = some (.int .u64 (W i))
  many : c.toList[517]? = some (.int .i64 many)

theorem QC.setFirst {first last W : Int → Int} {many : Int} {s : Value} {c : Array Value} (h : QC first last W many s c) {v : Int} (h0 : 0 ≤ v) (h1 : v ≤ 255) (x : Int) : QC (upd first v x) last W many s (wr c (1 + v.toNat * 1) [.int .i64 x]) := by
  have hs := h.size
  have hg := wr1_get (c := c) (k := 1 + v.toNat * 1) (by omega) (.int .i64 x)
  refine ⟨by rw [wr_size]; exact hs, ?_, ?_, ?_, ?_, ?_⟩
  · rw [hg, if_neg (by omega)]; exact h.links
  · intro u g0 g1
    rw [hg]
    by_cases e : u = v
    · subst e; rw [if_pos (by omega), upd_same]
    · rw [if_neg (by omega), upd_ne _ _ e]; exact h.first u g0 g1
  · intro u g0 g1; rw [hg, if_neg (by omega)]; exact h.last u g0 g1
  · intro u g0 g1; rw [hg, if_neg (by omega)]; exact h.mask u g0 g1
  · rw [hg, if_neg (by omega)]; exact h.many
theorem QC.setLast {first last W : Int → Int} {many : Int} {s : Value} {c : Array Value} (h : QC first last W many s c) {v : Int} (h0 : 0 ≤ v) (h1 : v ≤ 255) (x : Int) : QC first (upd last v x) W many s (wr c (257 + v.toNat * 1) [.int .i64 x]) := by
  have hs := h.size
  have hg := wr1_get (c := c) (k := 257 + v.toNat * 1) (by omega) (.int .i64 x)
  refine ⟨by rw [wr_size]; exact hs, ?_, ?_, ?_, ?_, ?_⟩
  · rw [hg, if_neg (by omega)]; exact h.links
  · intro u g0 g1; rw [hg, if_neg (by omega)]; exact h.first u g0 g1
  · intro u g0 g1
    rw [hg]
    by_cases e : u = v
    · subst e; rw [if_pos (by omega), upd_same]
    · rw [if_neg (by omega), upd_ne _ _ e]; exact h.last u g0 g1
  · intro u g0 g1; rw [hg, if_neg (by omega)]; exact h.mask u g0 g1
  · rw [hg, if_neg (by omega)]; exact h.many
theorem QC.setMask {first last W : Int → Int} {many : Int} {s : Value} {c : Array Value} (h : QC first last W many s c) {i : Int} (h0 : 0 ≤ i) (h1 : i < 4) (x : Int) : QC first last (upd W i x) many s (wr c (513 + i.toNat * 1) [.int .u64 x]) := by
  have hs := h.size
  have hg := wr1_get (c := c) (k := 513 + i.toNat * 1) (by omega) (.int .u64 x)
  refine ⟨by rw [wr_size]; exact hs, ?_, ?_, ?_, ?_, ?_⟩
  · rw [hg, if_neg (by omega)]; exact h.links
  · intro u g0 g1; rw [hg, if_neg (by omega)]; exact h.first u g0 g1
  · intro u g0 g1; rw [hg, if_neg (by omega)]; exact h.last u g0 g1
  · intro u g0 g1
    rw [hg]
    by_cases e : u = i
    · subst e; rw [if_pos (by omega), upd_same]
    · rw [if_neg (by omega), upd_ne _ _ e]; exact h.mask u g0 g1
  · rw [hg, if_neg (by omega)]; exact h.many
theorem QC.setMany {first last W : Int → Int} {many : Int} {s : Value} {c : Array Value} (h : QC first last W many s c) (x : Int) : QC first last W x s (wr c 517 [.int .i64 x]) := by
  have hs := h.size
  have hg := wr1_get (c := c) (k := 517) (by omega) (.int .i64 x)
  refine ⟨by rw [wr_size]; exact hs, ?_, ?_, ?_, ?_, ?_⟩
  · rw [hg, if_neg (by omega)]; exact h.links
  · intro u g0 g1; rw [hg, if_neg (by omega)]; exact h.first u g0 g1
  · intro u g0 g1; rw [hg, if_neg (by omega)]; exact h.last u g0 g1
  · intro u g0 g1; rw [hg, if_neg (by omega)]; exact h.mask u g0 g1
  · rw [hg, if_pos rfl]
theorem QC.setLinks {first last W : Int → Int} {many : Int} {s : Value} {c : Array Value} (h : QC first last W many s c) (x : Value) : QC first last W many x (wr c 0 [x]) := by
  have hs := h.size
  have hg := wr1_get (c := c) (k := 0) (by omega) x
  refine ⟨by rw [wr_size]; exact hs, ?_, ?_, ?_, ?_, ?_⟩
  · rw [hg, if_pos rfl]
  · intro u g0 g1; rw [hg, if_neg (by omega)]; exact h.first u g0 g1
  · intro u g0 g1; rw [hg, if_neg (by omega)]; exact h.last u g0 g1
  · intro u g0 g1; rw [hg, if_neg (by omega)]; exact h.mask u g0 g1
  · rw [hg, if_neg (by omega)]; exact h.many
theorem QC.words {first last W : Int → Int} {many : Int} {s : Value} {c : Array Value} (h : QC first last W many s c) : c.extract (0 + 513) (0 + 513 + 4) = #[.int .u64 (W 0), .int .u64 (W 1), .int .u64 (W 2), .int .u64 (W 3)] := by
  have hs := h.size
  apply Array.ext'
  apply List.ext_getElem?
  intro i
  simp only [Array.toList_extract, List.extract_eq_take_drop]
  rw [List.getElem?_take, List.getElem?_drop]
  match i with
  | 0 => have := h.mask 0 (by omega) (by omega); simpa using this
  | 1 => have := h.mask 1 (by omega) (by omega); simpa using this
  | 2 => have := h.mask 2 (by omega) (by omega); simpa using this
  | 3 => have := h.mask 3 (by omega) (by omega); simpa using this
  | i + 4 => rw [if_neg (by omega)]; simp

theorem QC.congr {first last first' last' W : Int → Int} {many : Int} {s : Value} {c : Array Value} (h : QC first last W many s c) (h1 : ∀ v, 0 ≤ v → v ≤ 255 → first' v = first v) (h2 : ∀ v, 0 ≤ v → v ≤ 255 → last' v = last v) : QC first' last' W many s c :=
  ⟨h.size, h.links, fun v a b => by rw [h1 v a b]; exact h.first v a b, fun v a b => by rw [h2 v a b]; exact h.last v a b, h.mask, h.many⟩

structure LA (ahead behind lv : Int → Int) (there : Int → Bool) (n : Nat) (c : Array Value) : Prop where
  size : n * 4 ≤ c.size
  ahead : ∀ i : Int, 0 ≤ i → i < n → c.toList[0 + i.toNat * 4 + 0]? = some (.int .i64 (ahead i))
  behind : ∀ i : Int, 0 ≤ i → i < n → c.toList[0 + i.toNat * 4 + 1]? = some (.int .i64 (behind i))
  lv : ∀ i : Int, 0 ≤ i → i < n → c.toList[0 + i.toNat * 4 + 2]? = some (.int .u8 (lv i))
  there : ∀ i : Int, 0 ≤ i → i < n → c.toList[0 + i.toNat * 4 + 3]? = some (.bool (there i))

theorem LA.setAhead {ahead behind lv : Int → Int} {there : Int → Bool} {n : Nat} {c : Array Value} (h : LA ahead behind lv there n c) {i : Int} (h0 : 0 ≤ i) (h1 : i < n) (x : Int) : LA (upd ahead i x) behind lv there n (wr c (i.toNat * 4) [.int .i64 x]) := by
  have hs := h.size
  have hg := wr1_get (c := c) (k := i.toNat * 4) (by omega) (.int .i64 x)
  refine ⟨by rw [wr_size]; exact hs, ?_, ?_, ?_, ?_⟩
  · intro u g0 g1
    rw [hg]
    by_cases e : u = i
    · subst e; rw [if_pos (by omega), upd_same]
    · rw [if_neg (by omega), upd_ne _ _ e]; exact h.ahead u g0 g1
  · intro u g0 g1; rw [hg, if_neg (by omega)]; exact h.behind u g0 g1
  · intro u g0 g1; rw [hg, if_neg (by omega)]; exact h.lv u g0 g1
  · intro u g0 g1; rw [hg, if_neg (by omega)]; exact h.there u g0 g1
theorem LA.setBehind {ahead behind lv : Int → Int} {there : Int → Bool} {n : Nat} {c : Array Value} (h : LA ahead behind lv there n c) {i : Int} (h0 : 0 ≤ i) (h1 : i < n) (x : Int) : LA ahead (upd behind i x) lv there n (wr c (i.toNat * 4 + 1) [.int .i64 x]) := by
  have hs := h.size
  have hg := wr1_get (c := c) (k := i.toNat * 4 + 1) (by omega) (.int .i64 x)
  refine ⟨by rw [wr_size]; exact hs, ?_, ?_, ?_, ?_⟩
  · intro u g0 g1; rw [hg, if_neg (by omega)]; exact h.ahead u g0 g1
  · intro u g0 g1
    rw [hg]
    by_cases e : u = i
    · subst e; rw [if_pos (by omega), upd_same]
    · rw [if_neg (by omega), upd_ne _ _ e]; exact h.behind u g0 g1
  · intro u g0 g1; rw [hg, if_neg (by omega)]; exact h.lv u g0 g1
  · intro u g0 g1; rw [hg, if_neg (by omega)]; exact h.there u g0 g1
theorem LA.setRow {ahead behind lv : Int → Int} {there : Int → Bool} {n : Nat} {c : Array Value} (h : LA ahead behind lv there n c) {i : Int} (h0 : 0 ≤ i) (h1 : i < n) (x y z : Int) (t : Bool) : LA (upd ahead i x) (upd behind i y) (upd lv i z) (upd there i t) n (wr c (i.toNat * 4) [.int .i64 x, .int .i64 y, .int .u8 z, .bool t]) := by
  have hs := h.size
  have hg : ∀ j, (wr c (i.toNat * 4) [.int .i64 x, .int .i64 y, .int .u8 z, .bool t]).toList[j]? = if i.toNat * 4 ≤ j ∧ j < i.toNat * 4 + 4 then [.int .i64 x, .int .i64 y, .int .u8 z, .bool t][j - i.toNat * 4]? else c.toList[j]? := fun j => by
    rw [Array.getElem?_toList, wr_get _ _ _ _ (by simp only [List.length_cons, List.length_nil]; omega), ← Array.getElem?_toList (xs := c)]; rfl
  refine ⟨by rw [wr_size]; exact hs, ?_, ?_, ?_, ?_⟩
  · intro u g0 g1
    rw [hg]
    by_cases e : u = i
    · subst e; rw [if_pos (by omega), upd_same, show 0 + u.toNat * 4 + 0 - u.toNat * 4 = 0 by omega]; rfl
    · rw [if_neg (by omega), upd_ne _ _ e]; exact h.ahead u g0 g1
  · intro u g0 g1
    rw [hg]
    by_cases e : u = i
    · subst e; rw [if_pos (by omega), upd_same, show 0 + u.toNat * 4 + 1 - u.toNat * 4 = 1 by omega]; rfl
    · rw [if_neg (by omega), upd_ne _ _ e]; exact h.behind u g0 g1
  · intro u g0 g1
    rw [hg]
    by_cases e : u = i
    · subst e; rw [if_pos (by omega), upd_same, show 0 + u.toNat * 4 + 2 - u.toNat * 4 = 2 by omega]; rfl
    · rw [if_neg (by omega), upd_ne _ _ e]; exact h.lv u g0 g1
  · intro u g0 g1
    rw [hg]
    by_cases e : u = i
    · subst e; rw [if_pos (by omega), upd_same, show 0 + u.toNat * 4 + 3 - u.toNat * 4 = 3 by omega]; rfl
    · rw [if_neg (by omega), upd_ne _ _ e]; exact h.there u g0 g1
theorem LA.row {ahead behind lv : Int → Int} {there : Int → Bool} {n : Nat} {c : Array Value} (h : LA ahead behind lv there n c) {i : Int} (h0 : 0 ≤ i) (h1 : i < n) : c.extract (0 + i.toNat * 4) (0 + i.toNat * 4 + 4) = #[.int .i64 (ahead i), .int .i64 (behind i), .int .u8 (lv i), .bool (there i)] := by
  have hs := h.size
  apply Array.ext'
  apply List.ext_getElem?
  intro j
  simp only [Array.toList_extract, List.extract_eq_take_drop]
  rw [List.getElem?_take, List.getElem?_drop, show 0 + i.toNat * 4 + 4 - (0 + i.toNat * 4) = 4 by omega]
  match j with
  | 0 => rw [if_pos (by omega)]; exact h.ahead i h0 h1
  | 1 => rw [if_pos (by omega)]; exact h.behind i h0 h1
  | 2 => rw [if_pos (by omega)]; exact h.lv i h0 h1
  | 3 => rw [if_pos (by omega)]; exact h.there i h0 h1
  | j + 4 => rw [if_neg (by omega)]; simp
theorem LA.rowIn {ahead behind lv : Int → Int} {there : Int → Bool} {n : Nat} {c : Array Value} (h : LA ahead behind lv there n c) {i : Int} (h0 : 0 ≤ i) (h1 : i < n) : 0 + i.toNat * 4 + 4 ≤ c.size := by
  have := h.size
  omega

/-- What must hold of a queue's two blocks. -/
structure QI (n : Nat) (l : List RItem) (q : BQ) (W : Int → Int) (s : Value) (c cl : Array Value) : Prop where
  ri : RI q n l
  mw : MW W q.mask
  pos : 1 ≤ n
  max : n ≤ 1024
  qc : QC q.first q.last W q.many s c
  la : LA q.ahead q.behind q.lv q.there n cl

def qO (p : Value) (n : Nat) (l : List RItem) : HP := fun F => ∃ x : (BQ × (Int → Int)) × (Nat × Nat × Nat) × (Array Value × Array Value), (p = .pointer (some ⟨x.2.1.1, 0, none⟩) ∧ QI n l x.1.1 x.1.2 (.slice (some ⟨x.2.1.2.1, 0, none⟩) n x.2.1.2.2) x.2.2.1 x.2.2.2) ∧ Star [pt x.2.1.1 (.cells x.2.2.1 118 (0, 0)), pt x.2.1.2.1 (.cells x.2.2.2 139 (0, 0))] F

theorem qO_open {w : World} {L : List HP} {p : Value} {n : Nat} {l : List RItem} (h : Sat oo w (qO p n l :: L)) :
    ∃ q W b bl cap c cl, p = .pointer (some ⟨b, 0, none⟩) ∧ QI n l q W (.slice (some ⟨bl, 0, none⟩) n cap) c cl ∧ Sat oo w (pt b (.cells c 118 (0, 0)) :: pt bl (.cells cl 139 (0, 0)) :: L) := by
  obtain ⟨⟨⟨q, W⟩, ⟨b, bl, cap⟩, ⟨c, cl⟩⟩, h⟩ := h.ex (α := (BQ × (Int → Int)) × (Nat × Nat × Nat) × (Array Value × Array Value)) 0 rfl (q := fun x F => (p = .pointer (some ⟨x.2.1.1, 0, none⟩) ∧ QI n l x.1.1 x.1.2 (.slice (some ⟨x.2.1.2.1, 0, none⟩) n x.2.1.2.2) x.2.2.1 x.2.2.2) ∧ Star [pt x.2.1.1 (.cells x.2.2.1 118 (0, 0)), pt x.2.1.2.1 (.cells x.2.2.2 139 (0, 0))] F) (fun F ⟨x, h⟩ => ⟨x, h⟩)
  obtain ⟨h1, h2⟩ := h.fact 0 rfl (fun F hF => hF.1)
  exact ⟨q, W, b, bl, cap, c, cl, h1, h2, (h.imp 0 rfl (fun F hF => hF.2)).unstar⟩
theorem qO_shut {w : World} {L : List HP} {n b bl cap : Nat} {l : List RItem} {q : BQ} {W : Int → Int} {c cl : Array Value} (hq : QI n l q W (.slice (some ⟨bl, 0, none⟩) n cap) c cl)
    (h : Sat oo w (pt b (.cells c 118 (0, 0)) :: pt bl (.cells cl 139 (0, 0)) :: L)) : Sat oo w (qO (.pointer (some ⟨b, 0, none⟩)) n l :: L) := by
  have h1 := Sat.star (B := [pt b (.cells c 118 (0, 0)), pt bl (.cells cl 139 (0, 0))]) (L := L) h
  exact h1.imp 0 rfl (fun F hF => ⟨⟨⟨q, W⟩, ⟨b, bl, cap⟩, ⟨c, cl⟩⟩, ⟨rfl, hq⟩, hF⟩)

def mayErr (l : List RItem) (n : Nat) (id : Int) (t : Bool) : Int := if id < 0 ∨ id ≥ n then 2 else if t = true ∧ ¬ 0 ≤ rat l id then 6 else if t = false ∧ 0 ≤ rat l id then 5 else 0
theorem mayErr_push (l : List RItem) (n : Nat) (id : Int) : mayErr l n id false = rPushErr l n id := by
  unfold mayErr rPushErr
  simp
theorem mayErr_rem (l : List RItem) (n : Nat) (id : Int) : mayErr l n id true = rRemErr l n id := by
  unfold mayErr rRemErr
  simp [Int.not_le]

theorem RI.thereRat {q : BQ} {n : Nat} {l : List RItem} (h : RI q n l) {i : Int} (h0 : 0 ≤ i) (h1 : i < n) : q.there i = true ↔ 0 ≤ rat l i := by
  rw [h.there i h0 h1, rat_mem]

set_option maxHeartbeats 1000000 in
theorem bqMay (p : Value) (n : Nat) (l : List RItem) (id : Int) (t : Bool) : Ct Try.prog 101 #[p, .int .i64 id, .bool t] [qO p n l] (fun v ps => v = .int .i64 (mayErr l n id t) ∧ ps = [qO p n l]) := by
  refine Ct.enter Try.func101 rfl (Nat.le_of_ble_eq_true rfl) ?_
  intro oo w R hS
  change RC _ _ _ _ _ _ [(0, _), (1, _), (2, _)] _
  obtain ⟨q, W, b, bl, cap, c, cl, rfl, hq, hS⟩ := qO_open hS
  have hS0 := hS
  have hsz := hq.qc.size
  refine RC.seq ?_
  refine RC.region rfl ?_
  refine RL.q (Qt.as rfl) ?_
  refine RL.nil ?_
  refine RE.sqN ?_
  refine RC.seq ?_
  refine RC.block ?_
  refine RC.seq ?_
  refine RC.region rfl ?_
  refine RL.q (Qt.mv rfl) ?_
  refine RL.q (Qt.eqlN rfl rfl) ?_
  refine RL.q (Qt.as rfl) ?_
  refine RL.nil ?_
  refine RE.sqN ?_
  refine RC.condF rfl (rfl) ?_
  refine RC.seq ?_
  refine RC.region rfl ?_
  refine RL.q (Qt.mv rfl) ?_
  refine RL.q (Qt.lss rfl rfl) ?_
  refine RL.q (Qt.mv rfl) ?_
  refine RLG.start 13 false rfl ?_
  refine RLG.q rfl rfl rfl (fun _ => Qt.mv rfl) ?_
  refine RLG.q rfl rfl rfl (fun _ => Qt.mv rfl) ?_
  refine RLG.q rfl rfl rfl (fun _ => Qt.nil rfl) ?_
  refine RLG.q rfl rfl rfl (fun _ => Qt.fld rfl) ?_
  refine RLG.q rfl rfl rfl (fun hg => by (try simp only [decide_eq_false_iff_not] at hg); exact Qt.ld rfl (by exact hS.at 0 rfl) (by exact hq.qc.links)) ?_
  refine RLG.q rfl rfl rfl (fun _ => Qt.lenS rfl) ?_
  refine RLG.q rfl rfl rfl (fun hg => by (try simp only [decide_eq_false_iff_not] at hg); exact Qt.geq rfl rfl) ?_
  refine RLG.or rfl rfl ?_
  refine RL.q (Qt.as rfl) ?_
  refine RL.nil ?_
  refine RE.sqN ?_
  refine RC.cond rfl (fun h => ?_) (fun h => ?_)
  · refine RC.seq ?_
    refine RC.region rfl ?_
    refine RL.q (Qt.as rfl) ?_
    refine RL.nil ?_
    refine RE.sqN ?_
    refine RC.ret ?_
    refine RE.bkR ?_
    refine RE.sqR ?_
    have h : id < 0 ∨ id ≥ n := by simpa using h
    exact RE.retB rfl ⟨by rw [mayErr, if_pos h]; rfl, rfl⟩ (qO_shut hq hS0)
  · skip
    have h : ¬ (id < 0 ∨ id ≥ n) := by simpa using h
    have ht := hq.ri.thereRat (i := id) (by omega) (by omega)
    refine RC.seq ?_
    refine RC.region rfl ?_
    refine RL.q (Qt.mv rfl) ?_
    refine RL.q (Qt.mv rfl) ?_
    refine RLG.start 24 true rfl ?_
    refine RLG.q rfl rfl rfl (fun _ => Qt.mv rfl) ?_
    refine RLG.q rfl rfl rfl (fun _ => Qt.nil rfl) ?_
    refine RLG.q rfl rfl rfl (fun _ => Qt.fld rfl) ?_
    refine RLG.q rfl rfl rfl (fun hg => by (try simp only [decide_eq_true_eq, decide_eq_false_iff_not, Bool.or_eq_false_iff, Bool.and_eq_true, Bool.not_eq_true, Bool.not_eq_false, Option.isSome_some, Option.isNone_some] at hg); exact Qt.ld rfl (by exact hS.at 0 rfl) (by exact hq.qc.links)) ?_
    refine RLG.q rfl rfl rfl (fun _ => Qt.mv rfl) ?_
    refine RLG.q rfl rfl rfl (fun hg => by (try simp only [decide_eq_true_eq, decide_eq_false_iff_not, Bool.or_eq_false_iff, Bool.and_eq_true, Bool.not_eq_true, Bool.not_eq_false, Option.isSome_some, Option.isNone_some] at hg); exact Qt.ixS rfl rfl (by omega) (by omega)) ?_
    refine RLG.q rfl rfl rfl (fun _ => Qt.fld rfl) ?_
    refine RLG.q rfl rfl rfl (fun hg => by (try simp only [decide_eq_true_eq, decide_eq_false_iff_not, Bool.or_eq_false_iff, Bool.and_eq_true, Bool.not_eq_true, Bool.not_eq_false, Option.isSome_some, Option.isNone_some] at hg); exact Qt.ld rfl (by exact hS.at 1 rfl) (by exact hq.la.there _ (by omega) (by omega))) ?_
    refine RLG.q rfl rfl rfl (fun _ => Qt.not rfl) ?_
    refine RLG.and rfl rfl ?_
    refine RL.q (Qt.as rfl) ?_
    refine RL.nil ?_
    refine RE.sqN ?_
    refine RC.cond rfl (fun h2 => ?_) (fun h2 => ?_)
    · refine RC.seq ?_
      refine RC.region rfl ?_
      refine RL.q (Qt.as rfl) ?_
      refine RL.nil ?_
      refine RE.sqN ?_
      refine RC.ret ?_
      refine RE.bkR ?_
      refine RE.sqR ?_
      have h2 : t = true ∧ q.there id = false := by simpa using h2
      have h3 : ¬ 0 ≤ rat l id := by rw [← ht, h2.2]; simp
      exact RE.retB rfl ⟨by rw [mayErr, if_neg h, if_pos ⟨h2.1, h3⟩]; rfl, rfl⟩ (qO_shut hq hS0)
    · skip
      have h2 : ¬ (t = true ∧ q.there id = false) := by simpa using h2
      have h4 : ¬ (t = true ∧ ¬ 0 ≤ rat l id) := by rw [← ht]; simpa using h2
      refine RC.seq ?_
      refine RC.region rfl ?_
      refine RL.q (Qt.mv rfl) ?_
      refine RL.q (Qt.not rfl) ?_
      refine RL.q (Qt.mv rfl) ?_
      refine RLG.start 38 true rfl ?_
      refine RLG.q rfl rfl rfl (fun _ => Qt.mv rfl) ?_
      refine RLG.q rfl rfl rfl (fun _ => Qt.nil rfl) ?_
      refine RLG.q rfl rfl rfl (fun _ => Qt.fld rfl) ?_
      refine RLG.q rfl rfl rfl (fun hg => by (try simp only [decide_eq_true_eq, decide_eq_false_iff_not, Bool.or_eq_false_iff, Bool.and_eq_true, Bool.not_eq_true, Bool.not_eq_false, Option.isSome_some, Option.isNone_some] at hg); exact Qt.ld rfl (by exact hS.at 0 rfl) (by exact hq.qc.links)) ?_
      refine RLG.q rfl rfl rfl (fun _ => Qt.mv rfl) ?_
      refine RLG.q rfl rfl rfl (fun hg => by (try simp only [decide_eq_true_eq, decide_eq_false_iff_not, Bool.or_eq_false_iff, Bool.and_eq_true, Bool.not_eq_true, Bool.not_eq_false, Option.isSome_some, Option.isNone_some] at hg); exact Qt.ixS rfl rfl (by omega) (by omega)) ?_
      refine RLG.q rfl rfl rfl (fun _ => Qt.fld rfl) ?_
      refine RLG.q rfl rfl rfl (fun hg => by (try simp only [decide_eq_true_eq, decide_eq_false_iff_not, Bool.or_eq_false_iff, Bool.and_eq_true, Bool.not_eq_true, Bool.not_eq_false, Option.isSome_some, Option.isNone_some] at hg); exact Qt.ld rfl (by exact hS.at 1 rfl) (by exact hq.la.there _ (by omega) (by omega))) ?_
      refine RLG.and rfl rfl ?_
      refine RL.q (Qt.as rfl) ?_
      refine RL.nil ?_
      refine RE.sqN ?_
      refine RC.cond rfl (fun h5 => ?_) (fun h5 => ?_)
      · refine RC.seq ?_
        refine RC.region rfl ?_
        refine RL.q (Qt.as rfl) ?_
        refine RL.nil ?_
        refine RE.sqN ?_
        refine RC.ret ?_
        refine RE.bkR ?_
        refine RE.sqR ?_
        have h5 : t = false ∧ q.there id = true := by simpa using h5
        have h6 : 0 ≤ rat l id := ht.1 h5.2
        exact RE.retB rfl ⟨by rw [mayErr, if_neg h, if_neg h4, if_pos ⟨h5.1, h6⟩]; rfl, rfl⟩ (qO_shut hq hS0)
      · refine RC.skip ?_
        refine RE.bkN ?_
        refine RE.sqN ?_
        refine RC.seq ?_
        refine RC.region rfl ?_
        refine RL.q (Qt.as rfl) ?_
        refine RL.nil ?_
        refine RE.sqN ?_
        refine RC.ret ?_
        have h5 : ¬ (t = false ∧ q.there id = true) := by simpa using h5
        have h6 : ¬ (t = false ∧ 0 ≤ rat l id) := by rw [← ht]; exact h5
        exact RE.retB rfl ⟨by rw [mayErr, if_neg h, if_neg h4, if_neg h6]; rfl, rfl⟩ (qO_shut hq hS0)
end Go.Proofs

/- The queue of levels: Len, Level, Mask, Push, Remove. -/
namespace Go.Proofs
open Go Go.Gx

set_option maxHeartbeats 1000000 in
theorem bqLen (p : Value) (n : Nat) (l : List RItem) : Ct Try.prog 62 #[p] [qO p n l] (fun v ps => v = .int .i64 l.length ∧ ps = [qO p n l]) := by
  refine Ct.enter Try.func62 rfl (Nat.le_of_ble_eq_true rfl) ?_
  intro oo w R hS
  change RC _ _ _ _ _ _ [(0, _)] _
  obtain ⟨q, W, b, bl, cap, c, cl, rfl, hq, hS⟩ := qO_open hS
  have hS0 := hS
  have hm := hq.qc.many
  refine RC.seq ?_
  refine RC.region rfl ?_
  refine RL.q (Qt.as rfl) ?_
  refine RL.nil ?_
  refine RE.sqN ?_
  refine RC.seq ?_
  refine RC.seq ?_
  refine RC.region rfl ?_
  refine RL.q (Qt.mv rfl) ?_
  refine RL.q (Qt.eqlN rfl rfl) ?_
  refine RL.nil ?_
  refine RE.sqN ?_
  refine RC.condF rfl (rfl) ?_
  refine RC.skip ?_
  refine RE.sqN ?_
  refine RC.seq ?_
  refine RC.region rfl ?_
  refine RL.q (Qt.mv rfl) ?_
  refine RL.q (Qt.nil rfl) ?_
  refine RL.q (Qt.fld rfl) ?_
  refine RL.q (Qt.ld rfl (by exact hS.at 0 rfl) (by exact hm)) ?_
  refine RL.q (Qt.as rfl) ?_
  refine RL.nil ?_
  refine RE.sqN ?_
  refine RC.ret ?_
  exact RE.retB rfl ⟨by rw [← hq.ri.many]; rfl, rfl⟩ (qO_shut hq hS0)

set_option maxHeartbeats 1000000 in
theorem bqLevel (p : Value) (n : Nat) (l : List RItem) (id : Int) : Ct Try.prog 94 #[p, .int .i64 id] [qO p n l] (fun v ps => v = rLevel l id ∧ ps = [qO p n l]) := by
  refine Ct.enter Try.func94 rfl (Nat.le_of_ble_eq_true rfl) ?_
  intro oo w R hS
  change RC _ _ _ _ _ _ [(0, _), (1, _)] _
  refine RC.seq ?_
  refine RC.region rfl ?_
  refine RL.q (Qt.as rfl) ?_
  refine RL.q (Qt.as rfl) ?_
  refine RL.nil ?_
  refine RE.sqN ?_
  refine RC.seq ?_
  refine RC.seq ?_
  refine RC.region rfl ?_
  refine RL.q (Qt.mv rfl) ?_
  refine RL.q (Qt.mv rfl) ?_
  refine RL.e (Ef.call hS (bqMay p n l id true) rfl rfl Try.call101 [0] [1] (by decide) rfl rfl) ?_
  rintro v8 w ⟨ps, ⟨rfl, rfl⟩, hS⟩
  refine RL.q (Qt.neq rfl rfl) ?_
  refine RL.nil ?_
  refine RE.sqN ?_
  refine RC.cond rfl (fun h => ?_) (fun h => ?_)
  · refine RC.seq ?_
    refine RC.region rfl ?_
    refine RL.q (Qt.as rfl) ?_
    refine RL.q (Qt.as rfl) ?_
    refine RL.nil ?_
    refine RE.sqN ?_
    refine RC.ret ?_
    refine RE.sqR ?_
    have h : ¬ mayErr l n id true = 0 := of_decide_eq_true h
    rw [mayErr_rem] at h
    obtain ⟨q, W, b, bl, cap, c, cl, rfl, hq, hS⟩ := qO_open hS
    have h1 : rat l id < 0 := by
      rcases Int.lt_or_le (rat l id) 0 with h1 | h1
      · exact h1
      · obtain ⟨x, hx, rfl⟩ := List.mem_map.1 (rat_mem.1 h1)
        have := (hq.ri.range x hx).1
        exfalso; apply h
        rw [rRemErr, if_neg (by omega), if_neg (by omega)]
    exact RE.retB rfl ⟨by rw [rLevel, if_pos h1]; rfl, rfl⟩ (qO_shut hq hS)
  · skip
    have h : mayErr l n id true = 0 := by simpa using h
    rw [mayErr_rem, rRemErr] at h
    have h0 : ¬ (id < 0 ∨ id ≥ n) := fun e => by rw [if_pos e] at h; omega
    rw [if_neg h0] at h
    have h1 : ¬ rat l id < 0 := fun e => by rw [if_pos e] at h; omega
    obtain ⟨q, W, b, bl, cap, c, cl, rfl, hq, hS⟩ := qO_open hS
    have hS0 := hS
    refine RC.skip ?_
    refine RE.sqN ?_
    refine RC.seq ?_
    refine RC.region rfl ?_
    refine RL.q (Qt.mv rfl) ?_
    refine RL.q (Qt.nil rfl) ?_
    refine RL.q (Qt.fld rfl) ?_
    refine RL.q (Qt.ld rfl (by exact hS.at 0 rfl) (by exact hq.qc.links)) ?_
    refine RL.q (Qt.mv rfl) ?_
    refine RL.q (Qt.ixS rfl rfl (by omega) (by omega)) ?_
    refine RL.q (Qt.fld rfl) ?_
    refine RL.q (Qt.ld rfl (by exact hS.at 1 rfl) (by exact hq.la.lv _ (by omega) (by omega))) ?_
    refine RL.q (Qt.as rfl) ?_
    refine RL.q (Qt.as rfl) ?_
    refine RL.nil ?_
    refine RE.sqN ?_
    refine RC.ret ?_
    have hl : q.lv id = (rget l (rat l id)).lv := by
      rcases rat_spec l id with ⟨_, g⟩ | ⟨i, hi, g1, g2⟩
      · omega
      · have := hq.ri.level _ (List.getElem_mem hi)
        rw [g2] at this
        rw [this, g1, rget]; simp [hi]
    exact RE.retB rfl ⟨by rw [rLevel, if_neg h1, ← hl]; rfl, rfl⟩ (qO_shut hq hS0)

/-- The answer of Mask. -/
def wordsV (W : Int → Int) : Value := .agg #[.int .u64 (W 0), .int .u64 (W 1), .int .u64 (W 2), .int .u64 (W 3)]
def lvM (l : List RItem) : Int → Bool := fun v => decide (rIds l v ≠ [])
def IsMask (v : Value) (l : List RItem) : Prop := ∃ W, v = wordsV W ∧ MW W (lvM l)

set_option maxHeartbeats 1000000 in
theorem bqMask (p : Value) (n : Nat) (l : List RItem) : Ct Try.prog 89 #[p] [qO p n l] (fun v ps => IsMask v l ∧ ps = [qO p n l]) := by
  refine Ct.enter Try.func89 rfl (Nat.le_of_ble_eq_true rfl) ?_
  intro oo w R hS
  change RC _ _ _ _ _ _ [(0, _)] _
  obtain ⟨q, W, b, bl, cap, c, cl, rfl, hq, hS⟩ := qO_open hS
  have hm := hq.qc.words
  have hsz := hq.qc.size
  refine RC.seq ?_
  refine RC.region rfl ?_
  refine RL.e (Ef.alloc hS) ?_
  rintro _ w ⟨b2, rfl, hS⟩
  try simp (disch := omega) only [cells_agg'] at hS
  refine RL.nil ?_
  refine RE.sqN ?_
  refine RC.seq ?_
  refine RC.seq ?_
  refine RC.region rfl ?_
  refine RL.q (Qt.mv rfl) ?_
  refine RL.q (Qt.eqlN rfl rfl) ?_
  refine RL.nil ?_
  refine RE.sqN ?_
  refine RC.condF rfl (rfl) ?_
  refine RC.skip ?_
  refine RE.sqN ?_
  refine RC.seq ?_
  refine RC.region rfl ?_
  refine RL.q (Qt.mv rfl) ?_
  refine RL.q (Qt.nil rfl) ?_
  refine RL.q (Qt.fld rfl) ?_
  refine RL.q (Qt.ldA rfl (by exact hS.at 1 rfl) (by exact hm) (by omega)) ?_
  refine RL.e0 (Ef.st hS 0 rfl rfl rfl (by rfl) (by rfl) (by exact Nat.le_of_ble_eq_true rfl)) ?_
  intro _ w hS
  simp (disch := omega) only [List.set_cons_zero, List.set_cons_succ, cells_agg', Nat.zero_add, wr, List.setIfInBounds_toArray] at hS
  refine RL.nil ?_
  refine RE.sqN ?_
  refine RC.ret ?_
  refine RE.retCell hS rfl rfl (k := 0) rfl rfl (Nat.le_of_ble_eq_true rfl) ⟨⟨W, rfl, ?_⟩, rfl⟩ (qO_shut hq (hS.pick [1, 2, 3] (by decide) rfl))
  exact hq.mw.congr fun v h0 h1 => by
    have := hq.ri.mask v h0 h1
    rw [lvM]
    by_cases e : rIds l v = []
    · rw [e] at this ⊢; simpa using this
    · simpa [e] using this.2 e

set_option maxHeartbeats 2000000 in
theorem bqPush (p : Value) (n : Nat) (l : List RItem) (lv id : Int) (hlv : 0 ≤ lv ∧ lv ≤ 255) : Ct Try.prog 86 #[p, .int .u8 lv, .int .i64 id] [qO p n l] (fun v ps => v = .int .i64 (rPushErr l n id) ∧ ps = [qO p n (rPush l n lv id)]) := by
  refine Ct.enter Try.func86 rfl (Nat.le_of_ble_eq_true rfl) ?_
  intro oo w R hS
  change RC _ _ _ _ _ _ [(0, _), (1, _), (2, _)] _
  refine RC.seq ?_
  refine RC.region rfl ?_
  refine RL.q (Qt.as rfl) ?_
  refine RL.nil ?_
  refine RE.sqN ?_
  refine RC.seq ?_
  refine RC.seq ?_
  refine RC.region rfl ?_
  refine RL.q (Qt.mv rfl) ?_
  refine RL.q (Qt.mv rfl) ?_
  refine RL.e (Ef.call hS (bqMay p n l id false) rfl rfl Try.call101 [0] [1] (by decide) rfl rfl) ?_
  rintro v11 w ⟨ps, ⟨rfl, rfl⟩, hS⟩
  refine RL.q (Qt.as rfl) ?_
  refine RL.nil ?_
  refine RE.sqN ?_
  refine RC.seq ?_
  refine RC.region rfl ?_
  refine RL.q (Qt.mv rfl) ?_
  refine RL.q (Qt.neq rfl rfl) ?_
  refine RL.nil ?_
  refine RE.sqN ?_
  rw [mayErr_push]
  refine RC.cond rfl (fun h => ?_) (fun h => ?_)
  · refine RC.seq ?_
    refine RC.region rfl ?_
    refine RL.q (Qt.mv rfl) ?_
    refine RL.q (Qt.as rfl) ?_
    refine RL.nil ?_
    refine RE.sqN ?_
    refine RC.ret ?_
    refine RE.sqR ?_
    have h : ¬ rPushErr l n id = 0 := by simpa using h
    exact RE.retB rfl ⟨rfl, by rw [show rPush l n lv id = l by simp [rPush, h]]⟩ hS
  · skip
    have h : rPushErr l n id = 0 := by simpa using h
    have hp : rPush l n lv id = l ++ [⟨id, lv⟩] := by rw [rPush, if_pos h]
    have hin : ¬ (id < 0 ∨ id ≥ n) := fun e => by rw [rPushErr, if_pos e] at h; omega
    have hnew : id ∉ l.map RItem.id := fun e => by rw [rPushErr, if_neg hin, if_pos (rat_mem.2 e)] at h; omega
    rw [h, hp]
    obtain ⟨q, W, b, bl, cap, c, cl, rfl, hq, hS⟩ := qO_open hS
    have hr := hq.ri.push (id := id) hlv.1 hlv.2 (by omega) (by omega) hnew
    have hemp := hq.ri.lastEmpty hlv.1 hlv.2
    have hsz := hq.qc.size
    have hsl := hq.la.size
    have hla := hq.la.setRow (i := id) (by omega) (by omega) (q.last lv) (-1) lv true
    refine RC.skip ?_
    refine RE.sqN ?_
    refine RC.seq ?_
    refine RC.region rfl ?_
    refine RL.q (Qt.mv rfl) ?_
    refine RL.q (Qt.mv rfl) ?_
    refine RL.q (Qt.nil rfl) ?_
    refine RL.q (Qt.fld rfl) ?_
    refine RL.q (Qt.ixA rfl rfl (by omega) (by omega)) ?_
    refine RL.q (Qt.ld rfl (by exact hS.at 0 rfl) (by exact hq.qc.last _ hlv.1 hlv.2)) ?_
    refine RL.q (Qt.as rfl) ?_
    refine RL.nil ?_
    refine RE.sqN ?_
    refine RC.seq ?_
    refine RC.region rfl ?_
    refine RL.q (Qt.mv rfl) ?_
    refine RL.q (Qt.nil rfl) ?_
    refine RL.q (Qt.fld rfl) ?_
    refine RL.q (Qt.ld rfl (by exact hS.at 0 rfl) (by exact hq.qc.links)) ?_
    refine RL.q (Qt.mv rfl) ?_
    refine RL.q (Qt.mv rfl) ?_
    refine RL.q (Qt.mv rfl) ?_
    refine RL.q (Qt.bldV [.tmp 26, .const (Go.Value.int Go.IntKind.i64 (-1)), .tmp 27, .const (Go.Value.bool true)] rfl rfl (by kernel_rfl)) ?_
    refine RL.q (Qt.ixS rfl rfl (by omega) (by omega)) ?_
    refine RL.e0 (Ef.st hS 1 rfl rfl rfl (by rfl) (by rfl) (by omega)) ?_
    intro _ w hS
    simp (disch := omega) only [List.set_cons_zero, List.set_cons_succ, cells_agg', Nat.zero_add, List.set_cons_zero] at hS
    refine RL.nil ?_
    refine RE.sqN ?_
    refine RC.seq ?_
    refine RC.seq ?_
    refine RC.region rfl ?_
    refine RL.q (Qt.mv rfl) ?_
    refine RL.q (Qt.eql rfl rfl) ?_
    refine RL.nil ?_
    refine RE.sqN ?_
    have hlen := hq.ri.lenLe
    have hmany := hq.ri.many
    have hmax := hq.max
    refine RC.cond rfl (fun h2 => ?_) (fun h2 => ?_)
    · skip
      have h2 : q.last lv = -1 := of_decide_eq_true h2
      have hc1 := hq.qc.setFirst hlv.1 hlv.2 id
      have hc2 := hc1.setMask (i := lv / 64) (by omega) (by omega) (orB (W (lv / 64)) (lv % 64))
      have hc3 := hc2.setLast hlv.1 hlv.2 id
      have hc4 := hc3.setMany (q.many + 1)
      have hz1 := hc1.size
      have hz2 := hc2.size
      have hz3 := hc3.size
      refine RC.seq ?_
      refine RC.region rfl ?_
      refine RL.q (Qt.mv rfl) ?_
      refine RL.q (Qt.mv rfl) ?_
      refine RL.q (Qt.mv rfl) ?_
      refine RL.q (Qt.nil rfl) ?_
      refine RL.q (Qt.fld rfl) ?_
      refine RL.q (Qt.ixA rfl rfl (by omega) (by omega)) ?_
      refine RL.e0 (Ef.st hS 0 rfl rfl rfl (by rfl) (by rfl) (by omega)) ?_
      intro _ w hS
      simp (disch := omega) only [List.set_cons_zero, cells_int', Nat.zero_add, List.set_cons_zero] at hS
      refine RL.nil ?_
      refine RE.sqN ?_
      refine RC.drawn 14 [0, 1, 2, 3, 4, 5, 6, 7, 8, 9, 10, 11, 12, 13] (Same _) (by kernel_rfl) (by kernel_rfl) Same.drew (fun hh => ?_)
      replace hS := hS.drew
      refine RH.q hh (Calm.sq Calm.body) rfl (by kernel_rfl) (Qt.mv rfl) ?_
      refine RH.q hh (Calm.sq Calm.body) rfl (by kernel_rfl) (Qt.mv rfl) ?_
      refine RH.q hh (Calm.sq Calm.body) rfl (by kernel_rfl) ((by exact Qt.quoI rfl rfl (by dsimp only [inK]; omega) (by omega))) ?_
      refine RH.q hh (Calm.sq Calm.body) rfl (by kernel_rfl) (Qt.nil rfl) ?_
      refine RH.q hh (Calm.sq Calm.body) rfl (by kernel_rfl) (Qt.fld rfl) ?_
      refine RH.q hh (Calm.sq Calm.body) rfl (by kernel_rfl) (Qt.ixA rfl rfl (by omega) (by omega)) ?_
      refine RH.q hh (Calm.sq Calm.body) rfl (by kernel_rfl) (Qt.ld rfl (by exact hS.at 0 rfl) (by exact hc1.mask _ (by omega) (by omega))) ?_
      refine RH.q hh (Calm.sq Calm.body) rfl (by kernel_rfl) (Qt.mv rfl) ?_
      refine RH.q hh (Calm.sq Calm.body) rfl (by kernel_rfl) ((by exact Qt.remI rfl rfl (by omega))) ?_
      refine RH.q hh (Calm.sq Calm.body) rfl (by kernel_rfl) (Qt.shl rfl rfl (by omega)) ?_
      refine RH.q hh (Calm.sq Calm.body) rfl (by kernel_rfl) (Qt.or rfl rfl) ?_
      refine RH.q hh (Calm.sq Calm.body) rfl (by kernel_rfl) (Qt.nil rfl) ?_
      refine RH.q hh (Calm.sq Calm.body) rfl (by kernel_rfl) (Qt.fld rfl) ?_
      refine RH.q hh (Calm.sq Calm.body) rfl (by kernel_rfl) (Qt.ixA rfl rfl (by omega) (by omega)) ?_
      refine RH.done hh (by kernel_rfl) ?_
      refine RL.e0 (Ef.st hS 0 rfl rfl rfl (by rfl) (by rfl) (by omega)) ?_
      intro _ w hS
      simp (disch := omega) only [List.set_cons_zero, cells_int', Nat.zero_add, List.set_cons_zero] at hS
      refine RL.nil ?_
      refine RE.sqN ?_
      refine RC.seq ?_
      refine RC.region rfl ?_
      refine RL.q (Qt.mv rfl) ?_
      refine RL.q (Qt.mv rfl) ?_
      refine RL.q (Qt.mv rfl) ?_
      refine RL.q (Qt.nil rfl) ?_
      refine RL.q (Qt.fld rfl) ?_
      refine RL.q (Qt.ixA rfl rfl (by omega) (by omega)) ?_
      refine RL.e0 (Ef.st hS 0 rfl rfl rfl (by rfl) (by rfl) (by (simp only [wr_size]; omega))) ?_
      intro _ w hS
      simp (disch := omega) only [List.set_cons_zero, cells_int', Nat.zero_add, List.set_cons_zero] at hS
      refine RL.nil ?_
      refine RE.sqN ?_
      refine RC.seq ?_
      refine RC.region rfl ?_
      refine RL.q (Qt.mv rfl) ?_
      refine RL.q (Qt.nil rfl) ?_
      refine RL.q (Qt.fld rfl) ?_
      refine RL.q (Qt.ld rfl (by exact hS.at 0 rfl) (by exact hc3.many)) ?_
      refine RL.q ((by exact Qt.addI rfl rfl (by dsimp only [inK]; omega))) ?_
      refine RL.q (Qt.nil rfl) ?_
      refine RL.q (Qt.fld rfl) ?_
      refine RL.e0 (Ef.st hS 0 rfl rfl rfl (by rfl) (by rfl) (by (simp only [wr_size]; omega))) ?_
      intro _ w hS
      simp (disch := omega) only [List.set_cons_zero, cells_int', Nat.zero_add, List.set_cons_zero] at hS
      refine RL.nil ?_
      refine RE.sqN ?_
      refine RC.seq ?_
      refine RC.region rfl ?_
      refine RL.q (Qt.as rfl) ?_
      refine RL.nil ?_
      refine RE.sqN ?_
      refine RC.ret ?_
      refine RE.retB rfl ⟨rfl, rfl⟩ (qO_shut (cap := cap) (q := q.push lv id) (W := upd W (lv / 64) (orB (W (lv / 64)) (lv % 64))) ⟨hr, ?_, hq.pos, hq.max, ?_, ?_⟩ hS)
      · exact (show (q.push lv id).mask = upd q.mask lv true from if_pos h2) ▸ hq.mw.or hlv.1 hlv.2
      · rw [show (q.push lv id).first = upd q.first lv id from if_pos h2]; exact hc4
      · rw [show (q.push lv id).behind = upd q.behind id (-1) from if_pos h2]; exact hla
    · skip
      have h2 : ¬ q.last lv = -1 := of_decide_eq_false h2
      have hlast : 0 ≤ q.last lv ∧ q.last lv < n := by
        obtain ⟨_, _, g⟩ := hq.ri.seg lv hlv.1 hlv.2
        rw [g]
        exact hq.ri.ids_nonneg (last_mem fun e => h2 (hemp.2 e))
      have hla2 := hla.setBehind hlast.1 hlast.2 id
      have hc3 := hq.qc.setLast hlv.1 hlv.2 id
      have hc4 := hc3.setMany (q.many + 1)
      have hz3 := hc3.size
      have hz4 := hla.size
      have hz5 := hla2.size
      refine RC.region rfl ?_
      refine RL.q (Qt.mv rfl) ?_
      refine RL.q (Qt.nil rfl) ?_
      refine RL.q (Qt.fld rfl) ?_
      refine RL.q (Qt.ld rfl (by exact hS.at 0 rfl) (by exact hq.qc.links)) ?_
      refine RL.q (Qt.mv rfl) ?_
      refine RL.q (Qt.mv rfl) ?_
      refine RL.q (Qt.ixS rfl rfl (by omega) (by omega)) ?_
      refine RL.q (Qt.fld rfl) ?_
      refine RL.e0 (Ef.st hS 1 rfl rfl rfl (by rfl) (by rfl) (by omega)) ?_
      intro _ w hS
      simp (disch := omega) only [List.set_cons_zero, List.set_cons_succ, cells_int', Nat.zero_add, List.set_cons_zero] at hS
      refine RL.nil ?_
      refine RE.sqN ?_
      refine RC.seq ?_
      refine RC.region rfl ?_
      refine RL.q (Qt.mv rfl) ?_
      refine RL.q (Qt.mv rfl) ?_
      refine RL.q (Qt.mv rfl) ?_
      refine RL.q (Qt.nil rfl) ?_
      refine RL.q (Qt.fld rfl) ?_
      refine RL.q (Qt.ixA rfl rfl (by omega) (by omega)) ?_
      refine RL.e0 (Ef.st hS 0 rfl rfl rfl (by rfl) (by rfl) (by omega)) ?_
      intro _ w hS
      simp (disch := omega) only [List.set_cons_zero, cells_int', Nat.zero_add, List.set_cons_zero] at hS
      refine RL.nil ?_
      refine RE.sqN ?_
      refine RC.seq ?_
      refine RC.region rfl ?_
      refine RL.q (Qt.mv rfl) ?_
      refine RL.q (Qt.nil rfl) ?_
      refine RL.q (Qt.fld rfl) ?_
      refine RL.q (Qt.ld rfl (by exact hS.at 0 rfl) (by exact hc3.many)) ?_
      refine RL.q ((by exact Qt.addI rfl rfl (by dsimp only [inK]; omega))) ?_
      refine RL.q (Qt.nil rfl) ?_
      refine RL.q (Qt.fld rfl) ?_
      refine RL.e0 (Ef.st hS 0 rfl rfl rfl (by rfl) (by rfl) (by omega)) ?_
      intro _ w hS
      simp (disch := omega) only [List.set_cons_zero, cells_int', Nat.zero_add, List.set_cons_zero] at hS
      refine RL.nil ?_
      refine RE.sqN ?_
      refine RC.seq ?_
      refine RC.region rfl ?_
      refine RL.q (Qt.as rfl) ?_
      refine RL.nil ?_
      refine RE.sqN ?_
      refine RC.ret ?_
      refine RE.retB rfl ⟨rfl, rfl⟩ (qO_shut (cap := cap) (q := q.push lv id) (W := W) ⟨hr, ?_, hq.pos, hq.max, ?_, ?_⟩ hS)
      · exact (show (q.push lv id).mask = q.mask from if_neg h2) ▸ hq.mw
      · rw [show (q.push lv id).first = q.first from if_neg h2]; exact hc4
      · rw [show (q.push lv id).behind = upd (upd q.behind id (-1)) (q.last lv) id from if_neg h2]; exact hla2

theorem RI.aheadIn {q : BQ} {n : Nat} {l : List RItem} (h : RI q n l) {y : RItem} (hy : y ∈ l) : (q.ahead y.id = -1 ∨ (0 ≤ q.ahead y.id ∧ q.ahead y.id < n)) ∧ (q.behind y.id = -1 ∨ (0 ≤ q.behind y.id ∧ q.behind y.id < n)) := by
  obtain ⟨_, h0, h1⟩ := h.range y hy
  obtain ⟨A, B, hAB⟩ := List.append_of_mem (mem_rIds.2 ⟨y, hy, rfl, rfl⟩ : y.id ∈ rIds l y.lv)
  obtain ⟨s1, _, _⟩ := h.seg y.lv h0 h1
  rw [hAB] at s1
  obtain ⟨_, ha, hb, _⟩ := Seg.append.1 s1
  rw [ha, hb]
  constructor
  · rcases List.eq_nil_or_concat A with h3 | ⟨t, e, h3⟩
    · subst h3; exact .inl rfl
    · subst h3
      refine .inr ?_
      rw [List.concat_eq_append, last_snoc]
      exact h.ids_nonneg (v := y.lv) (by rw [hAB]; simp)
  · cases B with
    | nil => exact .inl rfl
    | cons b t => exact .inr (h.ids_nonneg (v := y.lv) (by rw [hAB]; simp))

set_option maxHeartbeats 4000000 in
theorem bqRemove (p : Value) (n : Nat) (l : List RItem) (id : Int) : Ct Try.prog 95 #[p, .int .i64 id] [qO p n l] (fun v ps => v = .int .i64 (rRemErr l n id) ∧ ps = [qO p n (rRem l n id)]) := by
  refine Ct.enter Try.func95 rfl (Nat.le_of_ble_eq_true rfl) ?_
  intro oo w R hS
  change RC _ _ _ _ _ _ [(0, _), (1, _)] _
  refine RC.seq ?_
  refine RC.region rfl ?_
  refine RL.q (Qt.as rfl) ?_
  refine RL.nil ?_
  refine RE.sqN ?_
  refine RC.seq ?_
  refine RC.seq ?_
  refine RC.region rfl ?_
  refine RL.q (Qt.mv rfl) ?_
  refine RL.q (Qt.mv rfl) ?_
  refine RL.e (Ef.call hS (bqMay p n l id true) rfl rfl Try.call101 [0] [1] (by decide) rfl rfl) ?_
  rintro v9 w ⟨ps, ⟨rfl, rfl⟩, hS⟩
  refine RL.q (Qt.as rfl) ?_
  refine RL.nil ?_
  refine RE.sqN ?_
  refine RC.seq ?_
  refine RC.region rfl ?_
  refine RL.q (Qt.mv rfl) ?_
  refine RL.q (Qt.neq rfl rfl) ?_
  refine RL.nil ?_
  refine RE.sqN ?_
  rw [mayErr_rem]
  refine RC.cond rfl (fun h => ?_) (fun h => ?_)
  · refine RC.seq ?_
    refine RC.region rfl ?_
    refine RL.q (Qt.mv rfl) ?_
    refine RL.q (Qt.as rfl) ?_
    refine RL.nil ?_
    refine RE.sqN ?_
    refine RC.ret ?_
    refine RE.sqR ?_
    have h : ¬ rRemErr l n id = 0 := by simpa using h
    exact RE.retB rfl ⟨rfl, by rw [show rRem l n id = l by simp [rRem, h]]⟩ hS
  · skip
    have h : rRemErr l n id = 0 := by simpa using h
    have hin : ¬ (id < 0 ∨ id ≥ n) := fun e => by rw [rRemErr, if_pos e] at h; omega
    have hat : ¬ rat l id < 0 := fun e => by rw [rRemErr, if_neg hin, if_pos e] at h; omega
    obtain ⟨q, W, b, bl, cap, c, cl, rfl, hq, hS⟩ := qO_open hS
    have hp : rRem l n id = rWithout l id := by rw [rRem, if_pos h]; exact rat_out hq.ri.nodup (by omega)
    rw [h, hp]
    obtain ⟨y, hy, rfl⟩ := List.mem_map.1 (rat_mem.1 (show 0 ≤ rat l id by omega))
    have hr := hq.ri.rem hy
    have hlev := hq.ri.level y hy
    obtain ⟨_, hlv⟩ := hq.ri.range y hy
    rw [← hlev] at hlv
    obtain ⟨hra, hrb⟩ := hq.ri.aheadIn hy
    have hsz := hq.qc.size
    have hsl := hq.la.size
    have hlen := hq.ri.lenLe
    have hmany := hq.ri.many
    have hmax := hq.max
    have hrow := hq.la.row (i := y.id) (by omega) (by omega)
    refine RC.skip ?_
    refine RE.sqN ?_
    refine RC.seq ?_
    refine RC.region rfl ?_
    refine RL.q (Qt.mv rfl) ?_
    refine RL.q (Qt.nil rfl) ?_
    refine RL.q (Qt.fld rfl) ?_
    refine RL.q (Qt.ld rfl (by exact hS.at 0 rfl) (by exact hq.qc.links)) ?_
    refine RL.q (Qt.mv rfl) ?_
    refine RL.q (Qt.ixS rfl rfl (by omega) (by omega)) ?_
    refine RL.q (Qt.ldA rfl (by exact hS.at 1 rfl) (by exact hrow) (by omega)) ?_
    refine RL.e (Ef.alloc hS) ?_
    rintro _ w ⟨b6, rfl, hS⟩
    try simp (disch := omega) only [cells_agg'] at hS
    refine RL.e0 (Ef.st hS 0 rfl rfl rfl (by rfl) (by rfl) (by exact Nat.le_of_ble_eq_true rfl)) ?_
    intro _ w hS
    simp (disch := omega) only [List.set_cons_zero, List.set_cons_succ, cells_agg', Nat.zero_add, wr, List.setIfInBounds_toArray] at hS
    refine RL.nil ?_
    refine RE.sqN ?_
    refine RC.seq ?_
    refine RC.seq ?_
    refine RC.region rfl ?_
    refine RL.q (Qt.fld rfl) ?_
    refine RL.q (Qt.ld rfl (by exact hS.at 0 rfl) (by rfl)) ?_
    refine RL.q (Qt.eql rfl rfl) ?_
    refine RL.nil ?_
    refine RE.sqN ?_
    have hpos : 0 < l.length := List.length_pos_of_mem hy
    refine RC.cond rfl (fun h2 => ?_) (fun h2 => ?_)
    · skip
      have h2 : q.ahead y.id = -1 := of_decide_eq_true h2
      have hc1 := hq.qc.setFirst hlv.1 hlv.2 (q.behind y.id)
      have hl1 := hq.la
      refine RC.drawn 8 [0, 1, 2, 3, 4, 5, 6, 7] (Same _) (by kernel_rfl) (by kernel_rfl) Same.drew (fun hh => ?_)
      replace hS := hS.drew
      refine RH.q hh (Calm.sq Calm.body) rfl (by kernel_rfl) (Qt.mv rfl) ?_
      refine RH.q hh (Calm.sq Calm.body) rfl (by kernel_rfl) (Qt.fld rfl) ?_
      refine RH.q hh (Calm.sq Calm.body) rfl (by kernel_rfl) (Qt.ld rfl (by exact hS.at 0 rfl) (by rfl)) ?_
      refine RH.q hh (Calm.sq Calm.body) rfl (by kernel_rfl) (Qt.fld rfl) ?_
      refine RH.q hh (Calm.sq Calm.body) rfl (by kernel_rfl) (Qt.ld rfl (by exact hS.at 0 rfl) (by rfl)) ?_
      refine RH.q hh (Calm.sq Calm.body) rfl (by kernel_rfl) (Qt.nil rfl) ?_
      refine RH.q hh (Calm.sq Calm.body) rfl (by kernel_rfl) (Qt.fld rfl) ?_
      refine RH.q hh (Calm.sq Calm.body) rfl (by kernel_rfl) (Qt.ixA rfl rfl (by omega) (by omega)) ?_
      refine RH.done hh (by kernel_rfl) ?_
      refine RL.e0 (Ef.st hS 1 rfl rfl rfl (by rfl) (by rfl) (by omega)) ?_
      intro _ w hS
      simp (disch := omega) only [List.set_cons_zero, List.set_cons_succ, cells_int', Nat.zero_add, List.set_cons_zero] at hS
      refine RL.nil ?_
      refine RE.sqN ?_
      refine RC.seq ?_
      refine RC.seq ?_
      refine RC.region rfl ?_
      refine RL.q (Qt.fld rfl) ?_
      refine RL.q (Qt.ld rfl (by exact hS.at 0 rfl) (by rfl)) ?_
      refine RL.q (Qt.eql rfl rfl) ?_
      refine RL.nil ?_
      refine RE.sqN ?_
      refine RC.cond rfl (fun h3 => ?_) (fun h3 => ?_)
      · skip
        have h3 : q.behind y.id = -1 := of_decide_eq_true h3
        have hc2 := hc1.setLast hlv.1 hlv.2 (q.ahead y.id)
        have hl2 := hl1
        have hl3 := hl2.setRow (i := y.id) (by omega) (by omega) 0 0 0 false
        refine RC.drawn 8 [0, 1, 2, 3, 4, 5, 6, 7] (Same _) (by kernel_rfl) (by kernel_rfl) Same.drew (fun hh => ?_)
        replace hS := hS.drew
        refine RH.q hh (Calm.sq Calm.body) rfl (by kernel_rfl) (Qt.mv rfl) ?_
        refine RH.q hh (Calm.sq Calm.body) rfl (by kernel_rfl) (Qt.fld rfl) ?_
        refine RH.q hh (Calm.sq Calm.body) rfl (by kernel_rfl) (Qt.ld rfl (by exact hS.at 0 rfl) (by rfl)) ?_
        refine RH.q hh (Calm.sq Calm.body) rfl (by kernel_rfl) (Qt.fld rfl) ?_
        refine RH.q hh (Calm.sq Calm.body) rfl (by kernel_rfl) (Qt.ld rfl (by exact hS.at 0 rfl) (by rfl)) ?_
        refine RH.q hh (Calm.sq Calm.body) rfl (by kernel_rfl) (Qt.nil rfl) ?_
        refine RH.q hh (Calm.sq Calm.body) rfl (by kernel_rfl) (Qt.fld rfl) ?_
        refine RH.q hh (Calm.sq Calm.body) rfl (by kernel_rfl) (Qt.ixA rfl rfl (by omega) (by omega)) ?_
        refine RH.done hh (by kernel_rfl) ?_
        refine RL.e0 (Ef.st hS 1 rfl rfl rfl (by rfl) (by rfl) (by (simp only [wr_size]; omega))) ?_
        intro _ w hS
        simp (disch := omega) only [List.set_cons_zero, List.set_cons_succ, cells_int', Nat.zero_add, List.set_cons_zero] at hS
        refine RL.nil ?_
        refine RE.sqN ?_
        refine RC.seq ?_
        refine RC.seq ?_
        refine RC.drawn 8 [0, 1, 2, 3, 4, 5, 6, 7] (Same _) (by kernel_rfl) (by kernel_rfl) Same.drew (fun hh => ?_)
        replace hS := hS.drew
        refine RH.q hh (Calm.sq (Calm.sq Calm.body)) rfl (by kernel_rfl) (Qt.mv rfl) ?_
        refine RH.q hh (Calm.sq (Calm.sq Calm.body)) rfl (by kernel_rfl) (Qt.fld rfl) ?_
        refine RH.q hh (Calm.sq (Calm.sq Calm.body)) rfl (by kernel_rfl) (Qt.ld rfl (by exact hS.at 0 rfl) (by rfl)) ?_
        refine RH.q hh (Calm.sq (Calm.sq Calm.body)) rfl (by kernel_rfl) (Qt.nil rfl) ?_
        refine RH.q hh (Calm.sq (Calm.sq Calm.body)) rfl (by kernel_rfl) (Qt.fld rfl) ?_
        refine RH.q hh (Calm.sq (Calm.sq Calm.body)) rfl (by kernel_rfl) (Qt.ixA rfl rfl (by omega) (by omega)) ?_
        refine RH.q hh (Calm.sq (Calm.sq Calm.body)) rfl (by kernel_rfl) (Qt.ld rfl (by exact hS.at 1 rfl) (by exact hc2.first _ hlv.1 hlv.2)) ?_
        refine RH.q hh (Calm.sq (Calm.sq Calm.body)) rfl (by kernel_rfl) (Qt.eql rfl rfl) ?_
        refine RH.done hh (by kernel_rfl) ?_
        refine RL.nil ?_
        refine RE.sqN ?_
        refine RC.cond rfl (fun h4 => ?_) (fun h4 => ?_)
        · skip
          have h4 : (upd q.first (q.lv y.id) (q.behind y.id)) (q.lv y.id) = -1 := of_decide_eq_true h4
          have hc3 := hc2.setMask (i := q.lv y.id / 64) (by omega) (by omega) (andNotB (W (q.lv y.id / 64)) (q.lv y.id % 64))
          have hc4 := hc3.setMany (q.many - 1)
          refine RC.drawn 16 [0, 1, 2, 3, 4, 5, 6, 7, 8, 9, 10, 11, 12, 13, 14, 15] (Same _) (by kernel_rfl) (by kernel_rfl) Same.drew (fun hh => ?_)
          replace hS := hS.drew
          refine RH.q hh (Calm.sq Calm.body) rfl (by kernel_rfl) (Qt.mv rfl) ?_
          refine RH.q hh (Calm.sq Calm.body) rfl (by kernel_rfl) (Qt.fld rfl) ?_
          refine RH.q hh (Calm.sq Calm.body) rfl (by kernel_rfl) (Qt.ld rfl (by exact hS.at 0 rfl) (by rfl)) ?_
          refine RH.q hh (Calm.sq Calm.body) rfl (by kernel_rfl) ((by exact Qt.quoI rfl rfl (by dsimp only [inK]; omega) (by omega))) ?_
          refine RH.q hh (Calm.sq Calm.body) rfl (by kernel_rfl) (Qt.nil rfl) ?_
          refine RH.q hh (Calm.sq Calm.body) rfl (by kernel_rfl) (Qt.fld rfl) ?_
          refine RH.q hh (Calm.sq Calm.body) rfl (by kernel_rfl) (Qt.ixA rfl rfl (by omega) (by omega)) ?_
          refine RH.q hh (Calm.sq Calm.body) rfl (by kernel_rfl) (Qt.ld rfl (by exact hS.at 1 rfl) (by exact hc2.mask _ (by omega) (by omega))) ?_
          refine RH.q hh (Calm.sq Calm.body) rfl (by kernel_rfl) (Qt.fld rfl) ?_
          refine RH.q hh (Calm.sq Calm.body) rfl (by kernel_rfl) (Qt.ld rfl (by exact hS.at 0 rfl) (by rfl)) ?_
          refine RH.q hh (Calm.sq Calm.body) rfl (by kernel_rfl) ((by exact Qt.remI rfl rfl (by omega))) ?_
          refine RH.q hh (Calm.sq Calm.body) rfl (by kernel_rfl) (Qt.shl rfl rfl (by omega)) ?_
          refine RH.q hh (Calm.sq Calm.body) rfl (by kernel_rfl) (Qt.andNot rfl rfl) ?_
          refine RH.q hh (Calm.sq Calm.body) rfl (by kernel_rfl) (Qt.nil rfl) ?_
          refine RH.q hh (Calm.sq Calm.body) rfl (by kernel_rfl) (Qt.fld rfl) ?_
          refine RH.q hh (Calm.sq Calm.body) rfl (by kernel_rfl) (Qt.ixA rfl rfl (by omega) (by omega)) ?_
          refine RH.done hh (by kernel_rfl) ?_
          refine RL.e0 (Ef.st hS 1 rfl rfl rfl (by rfl) (by rfl) (by (simp only [wr_size]; omega))) ?_
          intro _ w hS
          simp (disch := omega) only [List.set_cons_zero, List.set_cons_succ, cells_int', Nat.zero_add, List.set_cons_zero] at hS
          refine RL.nil ?_
          refine RE.sqN ?_
          refine RC.seq ?_
          refine RC.region rfl ?_
          refine RL.q (Qt.mv rfl) ?_
          refine RL.q (Qt.nil rfl) ?_
          refine RL.q (Qt.fld rfl) ?_
          refine RL.q (Qt.ld rfl (by exact hS.at 1 rfl) (by exact hc3.links)) ?_
          refine RL.q (Qt.mv rfl) ?_
          refine RL.q (Qt.bldV [.const (Go.Value.int Go.IntKind.i64 0), .const (Go.Value.int Go.IntKind.i64 0), .const (Go.Value.int Go.IntKind.u8 0), .const (Go.Value.bool false)] rfl rfl (by kernel_rfl)) ?_
          refine RL.q (Qt.ixS rfl rfl (by omega) (by omega)) ?_
          refine RL.e0 (Ef.st hS 2 rfl rfl rfl (by rfl) (by rfl) (by omega)) ?_
          intro _ w hS
          simp (disch := omega) only [List.set_cons_zero, List.set_cons_succ, cells_agg', Nat.zero_add, List.set_cons_zero] at hS
          refine RL.nil ?_
          refine RE.sqN ?_
          refine RC.seq ?_
          refine RC.region rfl ?_
          refine RL.q (Qt.mv rfl) ?_
          refine RL.q (Qt.nil rfl) ?_
          refine RL.q (Qt.fld rfl) ?_
          refine RL.q (Qt.ld rfl (by exact hS.at 1 rfl) (by exact hc3.many)) ?_
          refine RL.q ((by exact Qt.subI rfl rfl (by dsimp only [inK]; omega))) ?_
          refine RL.q (Qt.nil rfl) ?_
          refine RL.q (Qt.fld rfl) ?_
          refine RL.e0 (Ef.st hS 1 rfl rfl rfl (by rfl) (by rfl) (by (simp only [wr_size]; omega))) ?_
          intro _ w hS
          simp (disch := omega) only [List.set_cons_zero, List.set_cons_succ, cells_int', Nat.zero_add, List.set_cons_zero] at hS
          refine RL.nil ?_
          refine RE.sqN ?_
          refine RC.seq ?_
          refine RC.region rfl ?_
          refine RL.q (Qt.as rfl) ?_
          refine RL.nil ?_
          refine RE.sqN ?_
          refine RC.ret ?_
          refine RE.retB rfl ⟨rfl, rfl⟩ (qO_shut (cap := cap) (q := q.rem y.id) (W := upd W (q.lv y.id / 64) (andNotB (W (q.lv y.id / 64)) (q.lv y.id % 64))) ⟨hr, ?_, hq.pos, hq.max, ?_, ?_⟩ (hS.pick [1, 2, 3] (by decide) rfl))
          · have hm : (q.rem y.id).mask = upd q.mask (q.lv y.id) false := by unfold BQ.rem; dsimp only; rw [if_pos h2, if_pos h4]
            rw [hm]; exact hq.mw.andNot hlv.1 hlv.2
          · have hf : (q.rem y.id).first = upd q.first (q.lv y.id) (q.behind y.id) := if_pos h2
            have hl : (q.rem y.id).last = upd q.last (q.lv y.id) (q.ahead y.id) := if_pos h3
            rw [hf, hl]; exact hc4
          · have ha : (q.rem y.id).ahead = upd q.ahead y.id 0 := congrArg (fun f => upd f y.id 0) (if_pos h3)
            have hb : (q.rem y.id).behind = upd q.behind y.id 0 := congrArg (fun f => upd f y.id 0) (if_pos h2)
            rw [ha, hb]; exact hl3
        · skip
          have h4 : ¬ (upd q.first (q.lv y.id) (q.behind y.id)) (q.lv y.id) = -1 := of_decide_eq_false h4
          have hc3 := hc2
          have hc4 := hc3.setMany (q.many - 1)
          refine RC.skip ?_
          refine RE.sqN ?_
          refine RC.seq ?_
          refine RC.region rfl ?_
          refine RL.q (Qt.mv rfl) ?_
          refine RL.q (Qt.nil rfl) ?_
          refine RL.q (Qt.fld rfl) ?_
          refine RL.q (Qt.ld rfl (by exact hS.at 1 rfl) (by exact hc3.links)) ?_
          refine RL.q (Qt.mv rfl) ?_
          refine RL.q (Qt.bldV [.const (Go.Value.int Go.IntKind.i64 0), .const (Go.Value.int Go.IntKind.i64 0), .const (Go.Value.int Go.IntKind.u8 0), .const (Go.Value.bool false)] rfl rfl (by kernel_rfl)) ?_
          refine RL.q (Qt.ixS rfl rfl (by omega) (by omega)) ?_
          refine RL.e0 (Ef.st hS 2 rfl rfl rfl (by rfl) (by rfl) (by omega)) ?_
          intro _ w hS
          simp (disch := omega) only [List.set_cons_zero, List.set_cons_succ, cells_agg', Nat.zero_add, List.set_cons_zero] at hS
          refine RL.nil ?_
          refine RE.sqN ?_
          refine RC.seq ?_
          refine RC.region rfl ?_
          refine RL.q (Qt.mv rfl) ?_
          refine RL.q (Qt.nil rfl) ?_
          refine RL.q (Qt.fld rfl) ?_
          refine RL.q (Qt.ld rfl (by exact hS.at 1 rfl) (by exact hc3.many)) ?_
          refine RL.q ((by exact Qt.subI rfl rfl (by dsimp only [inK]; omega))) ?_
          refine RL.q (Qt.nil rfl) ?_
          refine RL.q (Qt.fld rfl) ?_
          refine RL.e0 (Ef.st hS 1 rfl rfl rfl (by rfl) (by rfl) (by (simp only [wr_size]; omega))) ?_
          intro _ w hS
          simp (disch := omega) only [List.set_cons_zero, List.set_cons_succ, cells_int', Nat.zero_add, List.set_cons_zero] at hS
          refine RL.nil ?_
          refine RE.sqN ?_
          refine RC.seq ?_
          refine RC.region rfl ?_
          refine RL.q (Qt.as rfl) ?_
          refine RL.nil ?_
          refine RE.sqN ?_
          refine RC.ret ?_
          refine RE.retB rfl ⟨rfl, rfl⟩ (qO_shut (cap := cap) (q := q.rem y.id) (W := W) ⟨hr, ?_, hq.pos, hq.max, ?_, ?_⟩ (hS.pick [1, 2, 3] (by decide) rfl))
          · have hm : (q.rem y.id).mask = q.mask := by unfold BQ.rem; dsimp only; rw [if_pos h2, if_neg h4]
            rw [hm]; exact hq.mw
          · have hf : (q.rem y.id).first = upd q.first (q.lv y.id) (q.behind y.id) := if_pos h2
            have hl : (q.rem y.id).last = upd q.last (q.lv y.id) (q.ahead y.id) := if_pos h3
            rw [hf, hl]; exact hc4
          · have ha : (q.rem y.id).ahead = upd q.ahead y.id 0 := congrArg (fun f => upd f y.id 0) (if_pos h3)
            have hb : (q.rem y.id).behind = upd q.behind y.id 0 := congrArg (fun f => upd f y.id 0) (if_pos h2)
            rw [ha, hb]; exact hl3
      · skip
        have h3 : ¬ q.behind y.id = -1 := of_decide_eq_false h3
        have hrb := hrb.resolve_left h3
        have hl2 := hl1.setAhead hrb.1 hrb.2 (q.ahead y.id)
        have hc2 := hc1
        have hl3 := hl2.setRow (i := y.id) (by omega) (by omega) 0 0 0 false
        refine RC.drawn 10 [0, 1, 2, 3, 4, 5, 6, 7, 8, 9] (Same _) (by kernel_rfl) (by kernel_rfl) Same.drew (fun hh => ?_)
        replace hS := hS.drew
        refine RH.q hh (Calm.sq Calm.body) rfl (by kernel_rfl) (Qt.mv rfl) ?_
        refine RH.q hh (Calm.sq Calm.body) rfl (by kernel_rfl) (Qt.nil rfl) ?_
        refine RH.q hh (Calm.sq Calm.body) rfl (by kernel_rfl) (Qt.fld rfl) ?_
        refine RH.q hh (Calm.sq Calm.body) rfl (by kernel_rfl) (Qt.ld rfl (by exact hS.at 1 rfl) (by exact hc1.links)) ?_
        refine RH.q hh (Calm.sq Calm.body) rfl (by kernel_rfl) (Qt.fld rfl) ?_
        refine RH.q hh (Calm.sq Calm.body) rfl (by kernel_rfl) (Qt.ld rfl (by exact hS.at 0 rfl) (by rfl)) ?_
        refine RH.q hh (Calm.sq Calm.body) rfl (by kernel_rfl) (Qt.fld rfl) ?_
        refine RH.q hh (Calm.sq Calm.body) rfl (by kernel_rfl) (Qt.ld rfl (by exact hS.at 0 rfl) (by rfl)) ?_
        refine RH.q hh (Calm.sq Calm.body) rfl (by kernel_rfl) (Qt.ixS rfl rfl (by omega) (by omega)) ?_
        refine RH.q hh (Calm.sq Calm.body) rfl (by kernel_rfl) (Qt.fld rfl) ?_
        refine RH.done hh (by kernel_rfl) ?_
        refine RL.e0 (Ef.st hS 2 rfl rfl rfl (by rfl) (by rfl) (by omega)) ?_
        intro _ w hS
        simp (disch := omega) only [List.set_cons_zero, List.set_cons_succ, cells_int', Nat.zero_add, List.set_cons_zero] at hS
        refine RL.nil ?_
        refine RE.sqN ?_
        refine RC.seq ?_
        refine RC.seq ?_
        refine RC.drawn 8 [0, 1, 2, 3, 4, 5, 6, 7] (Same _) (by kernel_rfl) (by kernel_rfl) Same.drew (fun hh => ?_)
        replace hS := hS.drew
        refine RH.q hh (Calm.sq (Calm.sq Calm.body)) rfl (by kernel_rfl) (Qt.mv rfl) ?_
        refine RH.q hh (Calm.sq (Calm.sq Calm.body)) rfl (by kernel_rfl) (Qt.fld rfl) ?_
        refine RH.q hh (Calm.sq (Calm.sq Calm.body)) rfl (by kernel_rfl) (Qt.ld rfl (by exact hS.at 0 rfl) (by rfl)) ?_
        refine RH.q hh (Calm.sq (Calm.sq Calm.body)) rfl (by kernel_rfl) (Qt.nil rfl) ?_
        refine RH.q hh (Calm.sq (Calm.sq Calm.body)) rfl (by kernel_rfl) (Qt.fld rfl) ?_
        refine RH.q hh (Calm.sq (Calm.sq Calm.body)) rfl (by kernel_rfl) (Qt.ixA rfl rfl (by omega) (by omega)) ?_
        refine RH.q hh (Calm.sq (Calm.sq Calm.body)) rfl (by kernel_rfl) (Qt.ld rfl (by exact hS.at 1 rfl) (by exact hc2.first _ hlv.1 hlv.2)) ?_
        refine RH.q hh (Calm.sq (Calm.sq Calm.body)) rfl (by kernel_rfl) (Qt.eql rfl rfl) ?_
        refine RH.done hh (by kernel_rfl) ?_
        refine RL.nil ?_
        refine RE.sqN ?_
        refine RC.cond rfl (fun h4 => ?_) (fun h4 => ?_)
        · skip
          have h4 : (upd q.first (q.lv y.id) (q.behind y.id)) (q.lv y.id) = -1 := of_decide_eq_true h4
          have hc3 := hc2.setMask (i := q.lv y.id / 64) (by omega) (by omega) (andNotB (W (q.lv y.id / 64)) (q.lv y.id % 64))
          have hc4 := hc3.setMany (q.many - 1)
          refine RC.drawn 16 [0, 1, 2, 3, 4, 5, 6, 7, 8, 9, 10, 11, 12, 13, 14, 15] (Same _) (by kernel_rfl) (by kernel_rfl) Same.drew (fun hh => ?_)
          replace hS := hS.drew
          refine RH.q hh (Calm.sq Calm.body) rfl (by kernel_rfl) (Qt.mv rfl) ?_
          refine RH.q hh (Calm.sq Calm.body) rfl (by kernel_rfl) (Qt.fld rfl) ?_
          refine RH.q hh (Calm.sq Calm.body) rfl (by kernel_rfl) (Qt.ld rfl (by exact hS.at 0 rfl) (by rfl)) ?_
          refine RH.q hh (Calm.sq Calm.body) rfl (by kernel_rfl) ((by exact Qt.quoI rfl rfl (by dsimp only [inK]; omega) (by omega))) ?_
          refine RH.q hh (Calm.sq Calm.body) rfl (by kernel_rfl) (Qt.nil rfl) ?_
          refine RH.q hh (Calm.sq Calm.body) rfl (by kernel_rfl) (Qt.fld rfl) ?_
          refine RH.q hh (Calm.sq Calm.body) rfl (by kernel_rfl) (Qt.ixA rfl rfl (by omega) (by omega)) ?_
          refine RH.q hh (Calm.sq Calm.body) rfl (by kernel_rfl) (Qt.ld rfl (by exact hS.at 1 rfl) (by exact hc2.mask _ (by omega) (by omega))) ?_
          refine RH.q hh (Calm.sq Calm.body) rfl (by kernel_rfl) (Qt.fld rfl) ?_
          refine RH.q hh (Calm.sq Calm.body) rfl (by kernel_rfl) (Qt.ld rfl (by exact hS.at 0 rfl) (by rfl)) ?_
          refine RH.q hh (Calm.sq Calm.body) rfl (by kernel_rfl) ((by exact Qt.remI rfl rfl (by omega))) ?_
          refine RH.q hh (Calm.sq Calm.body) rfl (by kernel_rfl) (Qt.shl rfl rfl (by omega)) ?_
          refine RH.q hh (Calm.sq Calm.body) rfl (by kernel_rfl) (Qt.andNot rfl rfl) ?_
          refine RH.q hh (Calm.sq Calm.body) rfl (by kernel_rfl) (Qt.nil rfl) ?_
          refine RH.q hh (Calm.sq Calm.body) rfl (by kernel_rfl) (Qt.fld rfl) ?_
          refine RH.q hh (Calm.sq Calm.body) rfl (by kernel_rfl) (Qt.ixA rfl rfl (by omega) (by omega)) ?_
          refine RH.done hh (by kernel_rfl) ?_
          refine RL.e0 (Ef.st hS 1 rfl rfl rfl (by rfl) (by rfl) (by (simp only [wr_size]; omega))) ?_
          intro _ w hS
          simp (disch := omega) only [List.set_cons_zero, List.set_cons_succ, cells_int', Nat.zero_add, List.set_cons_zero] at hS
          refine RL.nil ?_
          refine RE.sqN ?_
          refine RC.seq ?_
          refine RC.region rfl ?_
          refine RL.q (Qt.mv rfl) ?_
          refine RL.q (Qt.nil rfl) ?_
          refine RL.q (Qt.fld rfl) ?_
          refine RL.q (Qt.ld rfl (by exact hS.at 1 rfl) (by exact hc3.links)) ?_
          refine RL.q (Qt.mv rfl) ?_
          refine RL.q (Qt.bldV [.const (Go.Value.int Go.IntKind.i64 0), .const (Go.Value.int Go.IntKind.i64 0), .const (Go.Value.int Go.IntKind.u8 0), .const (Go.Value.bool false)] rfl rfl (by kernel_rfl)) ?_
          refine RL.q (Qt.ixS rfl rfl (by omega) (by omega)) ?_
          refine RL.e0 (Ef.st hS 2 rfl rfl rfl (by rfl) (by rfl) (by (simp only [wr_size]; omega))) ?_
          intro _ w hS
          simp (disch := omega) only [List.set_cons_zero, List.set_cons_succ, cells_agg', Nat.zero_add, List.set_cons_zero] at hS
          refine RL.nil ?_
          refine RE.sqN ?_
          refine RC.seq ?_
          refine RC.region rfl ?_
          refine RL.q (Qt.mv rfl) ?_
          refine RL.q (Qt.nil rfl) ?_
          refine RL.q (Qt.fld rfl) ?_
          refine RL.q (Qt.ld rfl (by exact hS.at 1 rfl) (by exact hc3.many)) ?_
          refine RL.q ((by exact Qt.subI rfl rfl (by dsimp only [inK]; omega))) ?_
          refine RL.q (Qt.nil rfl) ?_
          refine RL.q (Qt.fld rfl) ?_
          refine RL.e0 (Ef.st hS 1 rfl rfl rfl (by rfl) (by rfl) (by (simp only [wr_size]; omega))) ?_
          intro _ w hS
          simp (disch := omega) only [List.set_cons_zero, List.set_cons_succ, cells_int', Nat.zero_add, List.set_cons_zero] at hS
          refine RL.nil ?_
          refine RE.sqN ?_
          refine RC.seq ?_
          refine RC.region rfl ?_
          refine RL.q (Qt.as rfl) ?_
          refine RL.nil ?_
          refine RE.sqN ?_
          refine RC.ret ?_
          refine RE.retB rfl ⟨rfl, rfl⟩ (qO_shut (cap := cap) (q := q.rem y.id) (W := upd W (q.lv y.id / 64) (andNotB (W (q.lv y.id / 64)) (q.lv y.id % 64))) ⟨hr, ?_, hq.pos, hq.max, ?_, ?_⟩ (hS.pick [1, 2, 3] (by decide) rfl))
          · have hm : (q.rem y.id).mask = upd q.mask (q.lv y.id) false := by unfold BQ.rem; dsimp only; rw [if_pos h2, if_pos h4]
            rw [hm]; exact hq.mw.andNot hlv.1 hlv.2
          · have hf : (q.rem y.id).first = upd q.first (q.lv y.id) (q.behind y.id) := if_pos h2
            have hl : (q.rem y.id).last = q.last := if_neg h3
            rw [hf, hl]; exact hc4
          · have ha : (q.rem y.id).ahead = upd (upd q.ahead (q.behind y.id) (q.ahead y.id)) y.id 0 := congrArg (fun f => upd f y.id 0) (if_neg h3)
            have hb : (q.rem y.id).behind = upd q.behind y.id 0 := congrArg (fun f => upd f y.id 0) (if_pos h2)
            rw [ha, hb]; exact hl3
        · skip
          have h4 : ¬ (upd q.first (q.lv y.id) (q.behind y.id)) (q.lv y.id) = -1 := of_decide_eq_false h4
          have hc3 := hc2
          have hc4 := hc3.setMany (q.many - 1)
          refine RC.skip ?_
          refine RE.sqN ?_
          refine RC.seq ?_
          refine RC.region rfl ?_
          refine RL.q (Qt.mv rfl) ?_
          refine RL.q (Qt.nil rfl) ?_
          refine RL.q (Qt.fld rfl) ?_
          refine RL.q (Qt.ld rfl (by exact hS.at 1 rfl) (by exact hc3.links)) ?_
          refine RL.q (Qt.mv rfl) ?_
          refine RL.q (Qt.bldV [.const (Go.Value.int Go.IntKind.i64 0), .const (Go.Value.int Go.IntKind.i64 0), .const (Go.Value.int Go.IntKind.u8 0), .const (Go.Value.bool false)] rfl rfl (by kernel_rfl)) ?_
          refine RL.q (Qt.ixS rfl rfl (by omega) (by omega)) ?_
          refine RL.e0 (Ef.st hS 2 rfl rfl rfl (by rfl) (by rfl) (by (simp only [wr_size]; omega))) ?_
          intro _ w hS
          simp (disch := omega) only [List.set_cons_zero, List.set_cons_succ, cells_agg', Nat.zero_add, List.set_cons_zero] at hS
          refine RL.nil ?_
          refine RE.sqN ?_
          refine RC.seq ?_
          refine RC.region rfl ?_
          refine RL.q (Qt.mv rfl) ?_
          refine RL.q (Qt.nil rfl) ?_
          refine RL.q (Qt.fld rfl) ?_
          refine RL.q (Qt.ld rfl (by exact hS.at 1 rfl) (by exact hc3.many)) ?_
          refine RL.q ((by exact Qt.subI rfl rfl (by dsimp only [inK]; omega))) ?_
          refine RL.q (Qt.nil rfl) ?_
          refine RL.q (Qt.fld rfl) ?_
          refine RL.e0 (Ef.st hS 1 rfl rfl rfl (by rfl) (by rfl) (by (simp only [wr_size]; omega))) ?_
          intro _ w hS
          simp (disch := omega) only [List.set_cons_zero, List.set_cons_succ, cells_int', Nat.zero_add, List.set_cons_zero] at hS
          refine RL.nil ?_
          refine RE.sqN ?_
          refine RC.seq ?_
          refine RC.region rfl ?_
          refine RL.q (Qt.as rfl) ?_
          refine RL.nil ?_
          refine RE.sqN ?_
          refine RC.ret ?_
          refine RE.retB rfl ⟨rfl, rfl⟩ (qO_shut (cap := cap) (q := q.rem y.id) (W := W) ⟨hr, ?_, hq.pos, hq.max, ?_, ?_⟩ (hS.pick [1, 2, 3] (by decide) rfl))
          · have hm : (q.rem y.id).mask = q.mask := by unfold BQ.rem; dsimp only; rw [if_pos h2, if_neg h4]
            rw [hm]; exact hq.mw
          · have hf : (q.rem y.id).first = upd q.first (q.lv y.id) (q.behind y.id) := if_pos h2
            have hl : (q.rem y.id).last = q.last := if_neg h3
            rw [hf, hl]; exact hc4
          · have ha : (q.rem y.id).ahead = upd (upd q.ahead (q.behind y.id) (q.ahead y.id)) y.id 0 := congrArg (fun f => upd f y.id 0) (if_neg h3)
            have hb : (q.rem y.id).behind = upd q.behind y.id 0 := congrArg (fun f => upd f y.id 0) (if_pos h2)
            rw [ha, hb]; exact hl3
    · skip
      have h2 : ¬ q.ahead y.id = -1 := of_decide_eq_false h2
      have hra := hra.resolve_left h2
      have hl1 := hq.la.setBehind hra.1 hra.2 (q.behind y.id)
      have hc1 := hq.qc
      refine RC.drawn 10 [0, 1, 2, 3, 4, 5, 6, 7, 8, 9] (Same _) (by kernel_rfl) (by kernel_rfl) Same.drew (fun hh => ?_)
      replace hS := hS.drew
      refine RH.q hh (Calm.sq Calm.body) rfl (by kernel_rfl) (Qt.mv rfl) ?_
      refine RH.q hh (Calm.sq Calm.body) rfl (by kernel_rfl) (Qt.nil rfl) ?_
      refine RH.q hh (Calm.sq Calm.body) rfl (by kernel_rfl) (Qt.fld rfl) ?_
      refine RH.q hh (Calm.sq Calm.body) rfl (by kernel_rfl) (Qt.ld rfl (by exact hS.at 1 rfl) (by exact hq.qc.links)) ?_
      refine RH.q hh (Calm.sq Calm.body) rfl (by kernel_rfl) (Qt.fld rfl) ?_
      refine RH.q hh (Calm.sq Calm.body) rfl (by kernel_rfl) (Qt.ld rfl (by exact hS.at 0 rfl) (by rfl)) ?_
      refine RH.q hh (Calm.sq Calm.body) rfl (by kernel_rfl) (Qt.fld rfl) ?_
      refine RH.q hh (Calm.sq Calm.body) rfl (by kernel_rfl) (Qt.ld rfl (by exact hS.at 0 rfl) (by rfl)) ?_
      refine RH.q hh (Calm.sq Calm.body) rfl (by kernel_rfl) (Qt.ixS rfl rfl (by omega) (by omega)) ?_
      refine RH.q hh (Calm.sq Calm.body) rfl (by kernel_rfl) (Qt.fld rfl) ?_
      refine RH.done hh (by kernel_rfl) ?_
      refine RL.e0 (Ef.st hS 2 rfl rfl rfl (by rfl) (by rfl) (by omega)) ?_
      intro _ w hS
      simp (disch := omega) only [List.set_cons_zero, List.set_cons_succ, cells_int', Nat.zero_add, List.set_cons_zero] at hS
      refine RL.nil ?_
      refine RE.sqN ?_
      refine RC.seq ?_
      refine RC.seq ?_
      refine RC.region rfl ?_
      refine RL.q (Qt.fld rfl) ?_
      refine RL.q (Qt.ld rfl (by exact hS.at 0 rfl) (by rfl)) ?_
      refine RL.q (Qt.eql rfl rfl) ?_
      refine RL.nil ?_
      refine RE.sqN ?_
      refine RC.cond rfl (fun h3 => ?_) (fun h3 => ?_)
      · skip
        have h3 : q.behind y.id = -1 := of_decide_eq_true h3
        have hc2 := hc1.setLast hlv.1 hlv.2 (q.ahead y.id)
        have hl2 := hl1
        have hl3 := hl2.setRow (i := y.id) (by omega) (by omega) 0 0 0 false
        refine RC.drawn 8 [0, 1, 2, 3, 4, 5, 6, 7] (Same _) (by kernel_rfl) (by kernel_rfl) Same.drew (fun hh => ?_)
        replace hS := hS.drew
        refine RH.q hh (Calm.sq Calm.body) rfl (by kernel_rfl) (Qt.mv rfl) ?_
        refine RH.q hh (Calm.sq Calm.body) rfl (by kernel_rfl) (Qt.fld rfl) ?_
        refine RH.q hh (Calm.sq Calm.body) rfl (by kernel_rfl) (Qt.ld rfl (by exact hS.at 0 rfl) (by rfl)) ?_
        refine RH.q hh (Calm.sq Calm.body) rfl (by kernel_rfl) (Qt.fld rfl) ?_
        refine RH.q hh (Calm.sq Calm.body) rfl (by kernel_rfl) (Qt.ld rfl (by exact hS.at 0 rfl) (by rfl)) ?_
        refine RH.q hh (Calm.sq Calm.body) rfl (by kernel_rfl) (Qt.nil rfl) ?_
        refine RH.q hh (Calm.sq Calm.body) rfl (by kernel_rfl) (Qt.fld rfl) ?_
        refine RH.q hh (Calm.sq Calm.body) rfl (by kernel_rfl) (Qt.ixA rfl rfl (by omega) (by omega)) ?_
        refine RH.done hh (by kernel_rfl) ?_
        refine RL.e0 (Ef.st hS 1 rfl rfl rfl (by rfl) (by rfl) (by omega)) ?_
        intro _ w hS
        simp (disch := omega) only [List.set_cons_zero, List.set_cons_succ, cells_int', Nat.zero_add, List.set_cons_zero] at hS
        refine RL.nil ?_
        refine RE.sqN ?_
        refine RC.seq ?_
        refine RC.seq ?_
        refine RC.drawn 8 [0, 1, 2, 3, 4, 5, 6, 7] (Same _) (by kernel_rfl) (by kernel_rfl) Same.drew (fun hh => ?_)
        replace hS := hS.drew
        refine RH.q hh (Calm.sq (Calm.sq Calm.body)) rfl (by kernel_rfl) (Qt.mv rfl) ?_
        refine RH.q hh (Calm.sq (Calm.sq Calm.body)) rfl (by kernel_rfl) (Qt.fld rfl) ?_
        refine RH.q hh (Calm.sq (Calm.sq Calm.body)) rfl (by kernel_rfl) (Qt.ld rfl (by exact hS.at 0 rfl) (by rfl)) ?_
        refine RH.q hh (Calm.sq (Calm.sq Calm.body)) rfl (by kernel_rfl) (Qt.nil rfl) ?_
        refine RH.q hh (Calm.sq (Calm.sq Calm.body)) rfl (by kernel_rfl) (Qt.fld rfl) ?_
        refine RH.q hh (Calm.sq (Calm.sq Calm.body)) rfl (by kernel_rfl) (Qt.ixA rfl rfl (by omega) (by omega)) ?_
        refine RH.q hh (Calm.sq (Calm.sq Calm.body)) rfl (by kernel_rfl) (Qt.ld rfl (by exact hS.at 1 rfl) (by exact hc2.first _ hlv.1 hlv.2)) ?_
        refine RH.q hh (Calm.sq (Calm.sq Calm.body)) rfl (by kernel_rfl) (Qt.eql rfl rfl) ?_
        refine RH.done hh (by kernel_rfl) ?_
        refine RL.nil ?_
        refine RE.sqN ?_
        refine RC.cond rfl (fun h4 => ?_) (fun h4 => ?_)
        · skip
          have h4 : (q.first) (q.lv y.id) = -1 := of_decide_eq_true h4
          have hc3 := hc2.setMask (i := q.lv y.id / 64) (by omega) (by omega) (andNotB (W (q.lv y.id / 64)) (q.lv y.id % 64))
          have hc4 := hc3.setMany (q.many - 1)
          refine RC.drawn 16 [0, 1, 2, 3, 4, 5, 6, 7, 8, 9, 10, 11, 12, 13, 14, 15] (Same _) (by kernel_rfl) (by kernel_rfl) Same.drew (fun hh => ?_)
          replace hS := hS.drew
          refine RH.q hh (Calm.sq Calm.body) rfl (by kernel_rfl) (Qt.mv rfl) ?_
          refine RH.q hh (Calm.sq Calm.body) rfl (by kernel_rfl) (Qt.fld rfl) ?_
          refine RH.q hh (Calm.sq Calm.body) rfl (by kernel_rfl) (Qt.ld rfl (by exact hS.at 0 rfl) (by rfl)) ?_
          refine RH.q hh (Calm.sq Calm.body) rfl (by kernel_rfl) ((by exact Qt.quoI rfl rfl (by dsimp only [inK]; omega) (by omega))) ?_
          refine RH.q hh (Calm.sq Calm.body) rfl (by kernel_rfl) (Qt.nil rfl) ?_
          refine RH.q hh (Calm.sq Calm.body) rfl (by kernel_rfl) (Qt.fld rfl) ?_
          refine RH.q hh (Calm.sq Calm.body) rfl (by kernel_rfl) (Qt.ixA rfl rfl (by omega) (by omega)) ?_
          refine RH.q hh (Calm.sq Calm.body) rfl (by kernel_rfl) (Qt.ld rfl (by exact hS.at 1 rfl) (by exact hc2.mask _ (by omega) (by omega))) ?_
          refine RH.q hh (Calm.sq Calm.body) rfl (by kernel_rfl) (Qt.fld rfl) ?_
          refine RH.q hh (Calm.sq Calm.body) rfl (by kernel_rfl) (Qt.ld rfl (by exact hS.at 0 rfl) (by rfl)) ?_
          refine RH.q hh (Calm.sq Calm.body) rfl (by kernel_rfl) ((by exact Qt.remI rfl rfl (by omega))) ?_
          refine RH.q hh (Calm.sq Calm.body) rfl (by kernel_rfl) (Qt.shl rfl rfl (by omega)) ?_
          refine RH.q hh (Calm.sq Calm.body) rfl (by kernel_rfl) (Qt.andNot rfl rfl) ?_
          refine RH.q hh (Calm.sq Calm.body) rfl (by kernel_rfl) (Qt.nil rfl) ?_
          refine RH.q hh (Calm.sq Calm.body) rfl (by kernel_rfl) (Qt.fld rfl) ?_
          refine RH.q hh (Calm.sq Calm.body) rfl (by kernel_rfl) (Qt.ixA rfl rfl (by omega) (by omega)) ?_
          refine RH.done hh (by kernel_rfl) ?_
          refine RL.e0 (Ef.st hS 1 rfl rfl rfl (by rfl) (by rfl) (by (simp only [wr_size]; omega))) ?_
          intro _ w hS
          simp (disch := omega) only [List.set_cons_zero, List.set_cons_succ, cells_int', Nat.zero_add, List.set_cons_zero] at hS
          refine RL.nil ?_
          refine RE.sqN ?_
          refine RC.seq ?_
          refine RC.region rfl ?_
          refine RL.q (Qt.mv rfl) ?_
          refine RL.q (Qt.nil rfl) ?_
          refine RL.q (Qt.fld rfl) ?_
          refine RL.q (Qt.ld rfl (by exact hS.at 1 rfl) (by exact hc3.links)) ?_
          refine RL.q (Qt.mv rfl) ?_
          refine RL.q (Qt.bldV [.const (Go.Value.int Go.IntKind.i64 0), .const (Go.Value.int Go.IntKind.i64 0), .const (Go.Value.int Go.IntKind.u8 0), .const (Go.Value.bool false)] rfl rfl (by kernel_rfl)) ?_
          refine RL.q (Qt.ixS rfl rfl (by omega) (by omega)) ?_
          refine RL.e0 (Ef.st hS 2 rfl rfl rfl (by rfl) (by rfl) (by (simp only [wr_size]; omega))) ?_
          intro _ w hS
          simp (disch := omega) only [List.set_cons_zero, List.set_cons_succ, cells_agg', Nat.zero_add, List.set_cons_zero] at hS
          refine RL.nil ?_
          refine RE.sqN ?_
          refine RC.seq ?_
          refine RC.region rfl ?_
          refine RL.q (Qt.mv rfl) ?_
          refine RL.q (Qt.nil rfl) ?_
          refine RL.q (Qt.fld rfl) ?_
          refine RL.q (Qt.ld rfl (by exact hS.at 1 rfl) (by exact hc3.many)) ?_
          refine RL.q ((by exact Qt.subI rfl rfl (by dsimp only [inK]; omega))) ?_
          refine RL.q (Qt.nil rfl) ?_
          refine RL.q (Qt.fld rfl) ?_
          refine RL.e0 (Ef.st hS 1 rfl rfl rfl (by rfl) (by rfl) (by (simp only [wr_size]; omega))) ?_
          intro _ w hS
          simp (disch := omega) only [List.set_cons_zero, List.set_cons_succ, cells_int', Nat.zero_add, List.set_cons_zero] at hS
          refine RL.nil ?_
          refine RE.sqN ?_
          refine RC.seq ?_
          refine RC.region rfl ?_
          refine RL.q (Qt.as rfl) ?_
          refine RL.nil ?_
          refine RE.sqN ?_
          refine RC.ret ?_
          refine RE.retB rfl ⟨rfl, rfl⟩ (qO_shut (cap := cap) (q := q.rem y.id) (W := upd W (q.lv y.id / 64) (andNotB (W (q.lv y.id / 64)) (q.lv y.id % 64))) ⟨hr, ?_, hq.pos, hq.max, ?_, ?_⟩ (hS.pick [1, 2, 3] (by decide) rfl))
          · have hm : (q.rem y.id).mask = upd q.mask (q.lv y.id) false := by unfold BQ.rem; dsimp only; rw [if_neg h2, if_pos h4]
            rw [hm]; exact hq.mw.andNot hlv.1 hlv.2
          · have hf : (q.rem y.id).first = q.first := if_neg h2
            have hl : (q.rem y.id).last = upd q.last (q.lv y.id) (q.ahead y.id) := if_pos h3
            rw [hf, hl]; exact hc4
          · have ha : (q.rem y.id).ahead = upd q.ahead y.id 0 := congrArg (fun f => upd f y.id 0) (if_pos h3)
            have hb : (q.rem y.id).behind = upd (upd q.behind (q.ahead y.id) (q.behind y.id)) y.id 0 := congrArg (fun f => upd f y.id 0) (if_neg h2)
            rw [ha, hb]; exact hl3
        · skip
          have h4 : ¬ (q.first) (q.lv y.id) = -1 := of_decide_eq_false h4
          have hc3 := hc2
          have hc4 := hc3.setMany (q.many - 1)
          refine RC.skip ?_
          refine RE.sqN ?_
          refine RC.seq ?_
          refine RC.region rfl ?_
          refine RL.q (Qt.mv rfl) ?_
          refine RL.q (Qt.nil rfl) ?_
          refine RL.q (Qt.fld rfl) ?_
          refine RL.q (Qt.ld rfl (by exact hS.at 1 rfl) (by exact hc3.links)) ?_
          refine RL.q (Qt.mv rfl) ?_
          refine RL.q (Qt.bldV [.const (Go.Value.int Go.IntKind.i64 0), .const (Go.Value.int Go.IntKind.i64 0), .const (Go.Value.int Go.IntKind.u8 0), .const (Go.Value.bool false)] rfl rfl (by kernel_rfl)) ?_
          refine RL.q (Qt.ixS rfl rfl (by omega) (by omega)) ?_
          refine RL.e0 (Ef.st hS 2 rfl rfl rfl (by rfl) (by rfl) (by (simp only [wr_size]; omega))) ?_
          intro _ w hS
          simp (disch := omega) only [List.set_cons_zero, List.set_cons_succ, cells_agg', Nat.zero_add, List.set_cons_zero] at hS
          refine RL.nil ?_
          refine RE.sqN ?_
          refine RC.seq ?_
          refine RC.region rfl ?_
          refine RL.q (Qt.mv rfl) ?_
          refine RL.q (Qt.nil rfl) ?_
          refine RL.q (Qt.fld rfl) ?_
          refine RL.q (Qt.ld rfl (by exact hS.at 1 rfl) (by exact hc3.many)) ?_
          refine RL.q ((by exact Qt.subI rfl rfl (by dsimp only [inK]; omega))) ?_
          refine RL.q (Qt.nil rfl) ?_
          refine RL.q (Qt.fld rfl) ?_
          refine RL.e0 (Ef.st hS 1 rfl rfl rfl (by rfl) (by rfl) (by (simp only [wr_size]; omega))) ?_
          intro _ w hS
          simp (disch := omega) only [List.set_cons_zero, List.set_cons_succ, cells_int', Nat.zero_add, List.set_cons_zero] at hS
          refine RL.nil ?_
          refine RE.sqN ?_
          refine RC.seq ?_
          refine RC.region rfl ?_
          refine RL.q (Qt.as rfl) ?_
          refine RL.nil ?_
          refine RE.sqN ?_
          refine RC.ret ?_
          refine RE.retB rfl ⟨rfl, rfl⟩ (qO_shut (cap := cap) (q := q.rem y.id) (W := W) ⟨hr, ?_, hq.pos, hq.max, ?_, ?_⟩ (hS.pick [1, 2, 3] (by decide) rfl))
          · have hm : (q.rem y.id).mask = q.mask := by unfold BQ.rem; dsimp only; rw [if_neg h2, if_neg h4]
            rw [hm]; exact hq.mw
          · have hf : (q.rem y.id).first = q.first := if_neg h2
            have hl : (q.rem y.id).last = upd q.last (q.lv y.id) (q.ahead y.id) := if_pos h3
            rw [hf, hl]; exact hc4
          · have ha : (q.rem y.id).ahead = upd q.ahead y.id 0 := congrArg (fun f => upd f y.id 0) (if_pos h3)
            have hb : (q.rem y.id).behind = upd (upd q.behind (q.ahead y.id) (q.behind y.id)) y.id 0 := congrArg (fun f => upd f y.id 0) (if_neg h2)
            rw [ha, hb]; exact hl3
      · skip
        have h3 : ¬ q.behind y.id = -1 := of_decide_eq_false h3
        have hrb := hrb.resolve_left h3
        have hl2 := hl1.setAhead hrb.1 hrb.2 (q.ahead y.id)
        have hc2 := hc1
        have hl3 := hl2.setRow (i := y.id) (by omega) (by omega) 0 0 0 false
        refine RC.drawn 10 [0, 1, 2, 3, 4, 5, 6, 7, 8, 9] (Same _) (by kernel_rfl) (by kernel_rfl) Same.drew (fun hh => ?_)
        replace hS := hS.drew
        refine RH.q hh (Calm.sq Calm.body) rfl (by kernel_rfl) (Qt.mv rfl) ?_
        refine RH.q hh (Calm.sq Calm.body) rfl (by kernel_rfl) (Qt.nil rfl) ?_
        refine RH.q hh (Calm.sq Calm.body) rfl (by kernel_rfl) (Qt.fld rfl) ?_
        refine RH.q hh (Calm.sq Calm.body) rfl (by kernel_rfl) (Qt.ld rfl (by exact hS.at 1 rfl) (by exact hq.qc.links)) ?_
        refine RH.q hh (Calm.sq Calm.body) rfl (by kernel_rfl) (Qt.fld rfl) ?_
        refine RH.q hh (Calm.sq Calm.body) rfl (by kernel_rfl) (Qt.ld rfl (by exact hS.at 0 rfl) (by rfl)) ?_
        refine RH.q hh (Calm.sq Calm.body) rfl (by kernel_rfl) (Qt.fld rfl) ?_
        refine RH.q hh (Calm.sq Calm.body) rfl (by kernel_rfl) (Qt.ld rfl (by exact hS.at 0 rfl) (by rfl)) ?_
        refine RH.q hh (Calm.sq Calm.body) rfl (by kernel_rfl) (Qt.ixS rfl rfl (by omega) (by omega)) ?_
        refine RH.q hh (Calm.sq Calm.body) rfl (by kernel_rfl) (Qt.fld rfl) ?_
        refine RH.done hh (by kernel_rfl) ?_
        refine RL.e0 (Ef.st hS 2 rfl rfl rfl (by rfl) (by rfl) (by (simp only [wr_size]; omega))) ?_
        intro _ w hS
        simp (disch := omega) only [List.set_cons_zero, List.set_cons_succ, cells_int', Nat.zero_add, List.set_cons_zero] at hS
        refine RL.nil ?_
        refine RE.sqN ?_
        refine RC.seq ?_
        refine RC.seq ?_
        refine RC.drawn 8 [0, 1, 2, 3, 4, 5, 6, 7] (Same _) (by kernel_rfl) (by kernel_rfl) Same.drew (fun hh => ?_)
        replace hS := hS.drew
        refine RH.q hh (Calm.sq (Calm.sq Calm.body)) rfl (by kernel_rfl) (Qt.mv rfl) ?_
        refine RH.q hh (Calm.sq (Calm.sq Calm.body)) rfl (by kernel_rfl) (Qt.fld rfl) ?_
        refine RH.q hh (Calm.sq (Calm.sq Calm.body)) rfl (by kernel_rfl) (Qt.ld rfl (by exact hS.at 0 rfl) (by rfl)) ?_
        refine RH.q hh (Calm.sq (Calm.sq Calm.body)) rfl (by kernel_rfl) (Qt.nil rfl) ?_
        refine RH.q hh (Calm.sq (Calm.sq Calm.body)) rfl (by kernel_rfl) (Qt.fld rfl) ?_
        refine RH.q hh (Calm.sq (Calm.sq Calm.body)) rfl (by kernel_rfl) (Qt.ixA rfl rfl (by omega) (by omega)) ?_
        refine RH.q hh (Calm.sq (Calm.sq Calm.body)) rfl (by kernel_rfl) (Qt.ld rfl (by exact hS.at 1 rfl) (by exact hc2.first _ hlv.1 hlv.2)) ?_
        refine RH.q hh (Calm.sq (Calm.sq Calm.body)) rfl (by kernel_rfl) (Qt.eql rfl rfl) ?_
        refine RH.done hh (by kernel_rfl) ?_
        refine RL.nil ?_
        refine RE.sqN ?_
        refine RC.cond rfl (fun h4 => ?_) (fun h4 => ?_)
        · skip
          have h4 : (q.first) (q.lv y.id) = -1 := of_decide_eq_true h4
          have hc3 := hc2.setMask (i := q.lv y.id / 64) (by omega) (by omega) (andNotB (W (q.lv y.id / 64)) (q.lv y.id % 64))
          have hc4 := hc3.setMany (q.many - 1)
          refine RC.drawn 16 [0, 1, 2, 3, 4, 5, 6, 7, 8, 9, 10, 11, 12, 13, 14, 15] (Same _) (by kernel_rfl) (by kernel_rfl) Same.drew (fun hh => ?_)
          replace hS := hS.drew
          refine RH.q hh (Calm.sq Calm.body) rfl (by kernel_rfl) (Qt.mv rfl) ?_
          refine RH.q hh (Calm.sq Calm.body) rfl (by kernel_rfl) (Qt.fld rfl) ?_
          refine RH.q hh (Calm.sq Calm.body) rfl (by kernel_rfl) (Qt.ld rfl (by exact hS.at 0 rfl) (by rfl)) ?_
          refine RH.q hh (Calm.sq Calm.body) rfl (by kernel_rfl) ((by exact Qt.quoI rfl rfl (by dsimp only [inK]; omega) (by omega))) ?_
          refine RH.q hh (Calm.sq Calm.body) rfl (by kernel_rfl) (Qt.nil rfl) ?_
          refine RH.q hh (Calm.sq Calm.body) rfl (by kernel_rfl) (Qt.fld rfl) ?_
          refine RH.q hh (Calm.sq Calm.body) rfl (by kernel_rfl) (Qt.ixA rfl rfl (by omega) (by omega)) ?_
          refine RH.q hh (Calm.sq Calm.body) rfl (by kernel_rfl) (Qt.ld rfl (by exact hS.at 1 rfl) (by exact hc2.mask _ (by omega) (by omega))) ?_
          refine RH.q hh (Calm.sq Calm.body) rfl (by kernel_rfl) (Qt.fld rfl) ?_
          refine RH.q hh (Calm.sq Calm.body) rfl (by kernel_rfl) (Qt.ld rfl (by exact hS.at 0 rfl) (by rfl)) ?_
          refine RH.q hh (Calm.sq Calm.body) rfl (by kernel_rfl) ((by exact Qt.remI rfl rfl (by omega))) ?_
          refine RH.q hh (Calm.sq Calm.body) rfl (by kernel_rfl) (Qt.shl rfl rfl (by omega)) ?_
          refine RH.q hh (Calm.sq Calm.body) rfl (by kernel_rfl) (Qt.andNot rfl rfl) ?_
          refine RH.q hh (Calm.sq Calm.body) rfl (by kernel_rfl) (Qt.nil rfl) ?_
          refine RH.q hh (Calm.sq Calm.body) rfl (by kernel_rfl) (Qt.fld rfl) ?_
          refine RH.q hh (Calm.sq Calm.body) rfl (by kernel_rfl) (Qt.ixA rfl rfl (by omega) (by omega)) ?_
          refine RH.done hh (by kernel_rfl) ?_
          refine RL.e0 (Ef.st hS 1 rfl rfl rfl (by rfl) (by rfl) (by omega)) ?_
          intro _ w hS
          simp (disch := omega) only [List.set_cons_zero, List.set_cons_succ, cells_int', Nat.zero_add, List.set_cons_zero] at hS
          refine RL.nil ?_
          refine RE.sqN ?_
          refine RC.seq ?_
          refine RC.region rfl ?_
          refine RL.q (Qt.mv rfl) ?_
          refine RL.q (Qt.nil rfl) ?_
          refine RL.q (Qt.fld rfl) ?_
          refine RL.q (Qt.ld rfl (by exact hS.at 1 rfl) (by exact hc3.links)) ?_
          refine RL.q (Qt.mv rfl) ?_
          refine RL.q (Qt.bldV [.const (Go.Value.int Go.IntKind.i64 0), .const (Go.Value.int Go.IntKind.i64 0), .const (Go.Value.int Go.IntKind.u8 0), .const (Go.Value.bool false)] rfl rfl (by kernel_rfl)) ?_
          refine RL.q (Qt.ixS rfl rfl (by omega) (by omega)) ?_
          refine RL.e0 (Ef.st hS 2 rfl rfl rfl (by rfl) (by rfl) (by (simp only [wr_size]; omega))) ?_
          intro _ w hS
          simp (disch := omega) only [List.set_cons_zero, List.set_cons_succ, cells_agg', Nat.zero_add, List.set_cons_zero] at hS
          refine RL.nil ?_
          refine RE.sqN ?_
          refine RC.seq ?_
          refine RC.region rfl ?_
          refine RL.q (Qt.mv rfl) ?_
          refine RL.q (Qt.nil rfl) ?_
          refine RL.q (Qt.fld rfl) ?_
          refine RL.q (Qt.ld rfl (by exact hS.at 1 rfl) (by exact hc3.many)) ?_
          refine RL.q ((by exact Qt.subI rfl rfl (by dsimp only [inK]; omega))) ?_
          refine RL.q (Qt.nil rfl) ?_
          refine RL.q (Qt.fld rfl) ?_
          refine RL.e0 (Ef.st hS 1 rfl rfl rfl (by rfl) (by rfl) (by (simp only [wr_size]; omega))) ?_
          intro _ w hS
          simp (disch := omega) only [List.set_cons_zero, List.set_cons_succ, cells_int', Nat.zero_add, List.set_cons_zero] at hS
          refine RL.nil ?_
          refine RE.sqN ?_
          refine RC.seq ?_
          refine RC.region rfl ?_
          refine RL.q (Qt.as rfl) ?_
          refine RL.nil ?_
          refine RE.sqN ?_
          refine RC.ret ?_
          refine RE.retB rfl ⟨rfl, rfl⟩ (qO_shut (cap := cap) (q := q.rem y.id) (W := upd W (q.lv y.id / 64) (andNotB (W (q.lv y.id / 64)) (q.lv y.id % 64))) ⟨hr, ?_, hq.pos, hq.max, ?_, ?_⟩ (hS.pick [1, 2, 3] (by decide) rfl))
          · have hm : (q.rem y.id).mask = upd q.mask (q.lv y.id) false := by unfold BQ.rem; dsimp only; rw [if_neg h2, if_pos h4]
            rw [hm]; exact hq.mw.andNot hlv.1 hlv.2
          · have hf : (q.rem y.id).first = q.first := if_neg h2
            have hl : (q.rem y.id).last = q.last := if_neg h3
            rw [hf, hl]; exact hc4
          · have ha : (q.rem y.id).ahead = upd (upd q.ahead (q.behind y.id) (q.ahead y.id)) y.id 0 := congrArg (fun f => upd f y.id 0) (if_neg h3)
            have hb : (q.rem y.id).behind = upd (upd q.behind (q.ahead y.id) (q.behind y.id)) y.id 0 := congrArg (fun f => upd f y.id 0) (if_neg h2)
            rw [ha, hb]; exact hl3
        · skip
          have h4 : ¬ (q.first) (q.lv y.id) = -1 := of_decide_eq_false h4
          have hc3 := hc2
          have hc4 := hc3.setMany (q.many - 1)
          refine RC.skip ?_
          refine RE.sqN ?_
          refine RC.seq ?_
          refine RC.region rfl ?_
          refine RL.q (Qt.mv rfl) ?_
          refine RL.q (Qt.nil rfl) ?_
          refine RL.q (Qt.fld rfl) ?_
          refine RL.q (Qt.ld rfl (by exact hS.at 1 rfl) (by exact hc3.links)) ?_
          refine RL.q (Qt.mv rfl) ?_
          refine RL.q (Qt.bldV [.const (Go.Value.int Go.IntKind.i64 0), .const (Go.Value.int Go.IntKind.i64 0), .const (Go.Value.int Go.IntKind.u8 0), .const (Go.Value.bool false)] rfl rfl (by kernel_rfl)) ?_
          refine RL.q (Qt.ixS rfl rfl (by omega) (by omega)) ?_
          refine RL.e0 (Ef.st hS 2 rfl rfl rfl (by rfl) (by rfl) (by (simp only [wr_size]; omega))) ?_
          intro _ w hS
          simp (disch := omega) only [List.set_cons_zero, List.set_cons_succ, cells_agg', Nat.zero_add, List.set_cons_zero] at hS
          refine RL.nil ?_
          refine RE.sqN ?_
          refine RC.seq ?_
          refine RC.region rfl ?_
          refine RL.q (Qt.mv rfl) ?_
          refine RL.q (Qt.nil rfl) ?_
          refine RL.q (Qt.fld rfl) ?_
          refine RL.q (Qt.ld rfl (by exact hS.at 1 rfl) (by exact hc3.many)) ?_
          refine RL.q ((by exact Qt.subI rfl rfl (by dsimp only [inK]; omega))) ?_
          refine RL.q (Qt.nil rfl) ?_
          refine RL.q (Qt.fld rfl) ?_
          refine RL.e0 (Ef.st hS 1 rfl rfl rfl (by rfl) (by rfl) (by omega)) ?_
          intro _ w hS
          simp (disch := omega) only [List.set_cons_zero, List.set_cons_succ, cells_int', Nat.zero_add, List.set_cons_zero] at hS
          refine RL.nil ?_
          refine RE.sqN ?_
          refine RC.seq ?_
          refine RC.region rfl ?_
          refine RL.q (Qt.as rfl) ?_
          refine RL.nil ?_
          refine RE.sqN ?_
          refine RC.ret ?_
          refine RE.retB rfl ⟨rfl, rfl⟩ (qO_shut (cap := cap) (q := q.rem y.id) (W := W) ⟨hr, ?_, hq.pos, hq.max, ?_, ?_⟩ (hS.pick [1, 2, 3] (by decide) rfl))
          · have hm : (q.rem y.id).mask = q.mask := by unfold BQ.rem; dsimp only; rw [if_neg h2, if_neg h4]
            rw [hm]; exact hq.mw
          · have hf : (q.rem y.id).first = q.first := if_neg h2
            have hl : (q.rem y.id).last = q.last := if_neg h3
            rw [hf, hl]; exact hc4
          · have ha : (q.rem y.id).ahead = upd (upd q.ahead (q.behind y.id) (q.ahead y.id)) y.id 0 := congrArg (fun f => upd f y.id 0) (if_neg h3)
            have hb : (q.rem y.id).behind = upd (upd q.behind (q.ahead y.id) (q.behind y.id)) y.id 0 := congrArg (fun f => upd f y.id 0) (if_neg h2)
            rw [ha, hb]; exact hl3
end Go.Proofs

/- The bit length of a number of 64 bits, as math/bits has it. -/
namespace Go.Proofs
open Go Go.Gx

theorem len8_facts (y : Int) (h0 : 0 ≤ y) (h1 : y ≤ 255) : (Lib.len8 y = (Lib.bitLen y.toNat : Int)) ∧ 0 ≤ Lib.len8 y ∧ Lib.len8 y ≤ 8 := by
  have a := Lib.len8_of y h0 h1
  have b := Lib.bitLen_le8' y h0 h1
  exact ⟨a, by omega, by omega⟩

set_option maxHeartbeats 4000000 in
theorem bitsLen64 (x : Int) (h0 : 0 ≤ x) (h1 : x ≤ 18446744073709551615) : Ct Try.prog 102 #[.int .u64 x] [] (fun v ps => v = .int .i64 (Lib.bitLen x.toNat) ∧ ps = []) := by
  refine Ct.enter Try.func102 rfl (Nat.le_of_ble_eq_true rfl) ?_
  intro oo w R hS
  change RC _ _ _ _ _ _ [(0, _)] _
  refine RC.seq ?_
  refine RC.region rfl ?_
  refine RL.q (Qt.as rfl) ?_
  refine RL.nil ?_
  refine RE.sqN ?_
  refine RC.seq ?_
  refine RC.seq ?_
  refine RC.region rfl ?_
  refine RL.q (Qt.mv rfl) ?_
  refine RL.q (Qt.geq rfl rfl) ?_
  refine RL.nil ?_
  refine RE.sqN ?_
  refine RC.cond rfl (fun h1 => ?_) (fun h1 => ?_)
  · skip
    have h1 : x ≥ 4294967296 := of_decide_eq_true h1
    refine RC.seq ?_
    refine RC.region rfl ?_
    refine RL.q (Qt.mv rfl) ?_
    refine RL.q ((by exact Qt.shrD 4294967296 rfl rfl (by decide) (by decide) (by decide))) ?_
    refine RL.q (Qt.as rfl) ?_
    refine RL.nil ?_
    refine RE.sqN ?_
    refine RC.region rfl ?_
    refine RL.q (Qt.as rfl) ?_
    refine RL.nil ?_
    refine RE.sqN ?_
    refine RC.seq ?_
    refine RC.seq ?_
    refine RC.region rfl ?_
    refine RL.q (Qt.mv rfl) ?_
    refine RL.q (Qt.geq rfl rfl) ?_
    refine RL.nil ?_
    refine RE.sqN ?_
    refine RC.cond rfl (fun h2 => ?_) (fun h2 => ?_)
    · skip
      have h2 : (x / 4294967296) ≥ 65536 := of_decide_eq_true h2
      refine RC.seq ?_
      refine RC.region rfl ?_
      refine RL.q (Qt.mv rfl) ?_
      refine RL.q ((by exact Qt.shrD 65536 rfl rfl (by decide) (by decide) (by decide))) ?_
      refine RL.q (Qt.as rfl) ?_
      refine RL.nil ?_
      refine RE.sqN ?_
      refine RC.region rfl ?_
      refine RL.q (Qt.mv rfl) ?_
      refine RL.q ((by exact Qt.addI rfl rfl (by dsimp only [inK]; omega))) ?_
      refine RL.q (Qt.as rfl) ?_
      refine RL.nil ?_
      refine RE.sqN ?_
      refine RC.seq ?_
      refine RC.seq ?_
      refine RC.region rfl ?_
      refine RL.q (Qt.mv rfl) ?_
      refine RL.q (Qt.geq rfl rfl) ?_
      refine RL.nil ?_
      refine RE.sqN ?_
      refine RC.cond rfl (fun h3 => ?_) (fun h3 => ?_)
      · skip
        have h3 : ((x / 4294967296) / 65536) ≥ 256 := of_decide_eq_true h3
        have hl := len8_facts (((x / 4294967296) / 65536) / 256) (by omega) (by omega)
        refine RC.seq ?_
        refine RC.region rfl ?_
        refine RL.q (Qt.mv rfl) ?_
        refine RL.q ((by exact Qt.shrD 256 rfl rfl (by decide) (by decide) (by decide))) ?_
        refine RL.q (Qt.as rfl) ?_
        refine RL.nil ?_
        refine RE.sqN ?_
        refine RC.region rfl ?_
        refine RL.q (Qt.mv rfl) ?_
        refine RL.q ((by exact Qt.addI rfl rfl (by dsimp only [inK]; omega))) ?_
        refine RL.q (Qt.as rfl) ?_
        refine RL.nil ?_
        refine RE.sqN ?_
        refine RC.seq ?_
        refine RC.region rfl ?_
        refine RL.q (Qt.mv rfl) ?_
        refine RL.q (Qt.mv rfl) ?_
        refine RL.q ((by exact Qt.cvtI rfl (by dsimp only [inK]; omega))) ?_
        refine RL.q (Qt.ixL8 (by kernel_rfl) rfl (by omega) (by omega)) ?_
        refine RL.q ((by exact Qt.cvtI rfl (by dsimp only [inK]; omega))) ?_
        refine RL.q ((by exact Qt.addI rfl rfl (by dsimp only [inK]; omega))) ?_
        refine RL.q (Qt.as rfl) ?_
        refine RL.nil ?_
        refine RE.sqN ?_
        refine RC.ret ?_
        refine RE.retB rfl ⟨?_, rfl⟩ hS
        have e0 := Lib.bitLen_shift32 (x.toNat) (by omega) (by omega)
        have e1 := Lib.bitLen_shift16 (x.toNat / 4294967296) (by omega) (by omega)
        have e2 := Lib.bitLen_shift8 (x.toNat / 4294967296 / 65536) (by omega) (by omega)
        have ez : ((((x / 4294967296) / 65536) / 256)).toNat = x.toNat / 4294967296 / 65536 / 256 := by omega
        rw [ez] at hl
        simp only [oneOf, Value.int.injEq, true_and]
        omega
      · skip
        have h3 : ¬ ((x / 4294967296) / 65536) ≥ 256 := of_decide_eq_false h3
        have hl := len8_facts ((x / 4294967296) / 65536) (by omega) (by omega)
        refine RC.skip ?_
        refine RE.sqN ?_
        refine RC.seq ?_
        refine RC.region rfl ?_
        refine RL.q (Qt.mv rfl) ?_
        refine RL.q (Qt.mv rfl) ?_
        refine RL.q ((by exact Qt.cvtI rfl (by dsimp only [inK]; omega))) ?_
        refine RL.q (Qt.ixL8 (by kernel_rfl) rfl (by omega) (by omega)) ?_
        refine RL.q ((by exact Qt.cvtI rfl (by dsimp only [inK]; omega))) ?_
        refine RL.q ((by exact Qt.addI rfl rfl (by dsimp only [inK]; omega))) ?_
        refine RL.q (Qt.as rfl) ?_
        refine RL.nil ?_
        refine RE.sqN ?_
        refine RC.ret ?_
        refine RE.retB rfl ⟨?_, rfl⟩ hS
        have e0 := Lib.bitLen_shift32 (x.toNat) (by omega) (by omega)
        have e1 := Lib.bitLen_shift16 (x.toNat / 4294967296) (by omega) (by omega)
        have ez : (((x / 4294967296) / 65536)).toNat = x.toNat / 4294967296 / 65536 := by omega
        rw [ez] at hl
        simp only [oneOf, Value.int.injEq, true_and]
        omega
    · skip
      have h2 : ¬ (x / 4294967296) ≥ 65536 := of_decide_eq_false h2
      refine RC.skip ?_
      refine RE.sqN ?_
      refine RC.seq ?_
      refine RC.seq ?_
      refine RC.region rfl ?_
      refine RL.q (Qt.mv rfl) ?_
      refine RL.q (Qt.geq rfl rfl) ?_
      refine RL.nil ?_
      refine RE.sqN ?_
      refine RC.cond rfl (fun h3 => ?_) (fun h3 => ?_)
      · skip
        have h3 : (x / 4294967296) ≥ 256 := of_decide_eq_true h3
        have hl := len8_facts ((x / 4294967296) / 256) (by omega) (by omega)
        refine RC.seq ?_
        refine RC.region rfl ?_
        refine RL.q (Qt.mv rfl) ?_
        refine RL.q ((by exact Qt.shrD 256 rfl rfl (by decide) (by decide) (by decide))) ?_
        refine RL.q (Qt.as rfl) ?_
        refine RL.nil ?_
        refine RE.sqN ?_
        refine RC.region rfl ?_
        refine RL.q (Qt.mv rfl) ?_
        refine RL.q ((by exact Qt.addI rfl rfl (by dsimp only [inK]; omega))) ?_
        refine RL.q (Qt.as rfl) ?_
        refine RL.nil ?_
        refine RE.sqN ?_
        refine RC.seq ?_
        refine RC.region rfl ?_
        refine RL.q (Qt.mv rfl) ?_
        refine RL.q (Qt.mv rfl) ?_
        refine RL.q ((by exact Qt.cvtI rfl (by dsimp only [inK]; omega))) ?_
        refine RL.q (Qt.ixL8 (by kernel_rfl) rfl (by omega) (by omega)) ?_
        refine RL.q ((by exact Qt.cvtI rfl (by dsimp only [inK]; omega))) ?_
        refine RL.q ((by exact Qt.addI rfl rfl (by dsimp only [inK]; omega))) ?_
        refine RL.q (Qt.as rfl) ?_
        refine RL.nil ?_
        refine RE.sqN ?_
        refine RC.ret ?_
        refine RE.retB rfl ⟨?_, rfl⟩ hS
        have e0 := Lib.bitLen_shift32 (x.toNat) (by omega) (by omega)
        have e2 := Lib.bitLen_shift8 (x.toNat / 4294967296) (by omega) (by omega)
        have ez : (((x / 4294967296) / 256)).toNat = x.toNat / 4294967296 / 256 := by omega
        rw [ez] at hl
        simp only [oneOf, Value.int.injEq, true_and]
        omega
      · skip
        have h3 : ¬ (x / 4294967296) ≥ 256 := of_decide_eq_false h3
        have hl := len8_facts (x / 4294967296) (by omega) (by omega)
        refine RC.skip ?_
        refine RE.sqN ?_
        refine RC.seq ?_
        refine RC.region rfl ?_
        refine RL.q (Qt.mv rfl) ?_
        refine RL.q (Qt.mv rfl) ?_
        refine RL.q ((by exact Qt.cvtI rfl (by dsimp only [inK]; omega))) ?_
        refine RL.q (Qt.ixL8 (by kernel_rfl) rfl (by omega) (by omega)) ?_
        refine RL.q ((by exact Qt.cvtI rfl (by dsimp only [inK]; omega))) ?_
        refine RL.q ((by exact Qt.addI rfl rfl (by dsimp only [inK]; omega))) ?_
        refine RL.q (Qt.as rfl) ?_
        refine RL.nil ?_
        refine RE.sqN ?_
        refine RC.ret ?_
        refine RE.retB rfl ⟨?_, rfl⟩ hS
        have e0 := Lib.bitLen_shift32 (x.toNat) (by omega) (by omega)
        have ez : ((x / 4294967296)).toNat = x.toNat / 4294967296 := by omega
        rw [ez] at hl
        simp only [oneOf, Value.int.injEq, true_and]
        omega
  · skip
    have h1 : ¬ x ≥ 4294967296 := of_decide_eq_false h1
    refine RC.skip ?_
    refine RE.sqN ?_
    refine RC.seq ?_
    refine RC.seq ?_
    refine RC.region rfl ?_
    refine RL.q (Qt.mv rfl) ?_
    refine RL.q (Qt.geq rfl rfl) ?_
    refine RL.nil ?_
    refine RE.sqN ?_
    refine RC.cond rfl (fun h2 => ?_) (fun h2 => ?_)
    · skip
      have h2 : x ≥ 65536 := of_decide_eq_true h2
      refine RC.seq ?_
      refine RC.region rfl ?_
      refine RL.q (Qt.mv rfl) ?_
      refine RL.q ((by exact Qt.shrD 65536 rfl rfl (by decide) (by decide) (by decide))) ?_
      refine RL.q (Qt.as rfl) ?_
      refine RL.nil ?_
      refine RE.sqN ?_
      refine RC.region rfl ?_
      refine RL.q (Qt.mv rfl) ?_
      refine RL.q ((by exact Qt.addI rfl rfl (by dsimp only [inK]; omega))) ?_
      refine RL.q (Qt.as rfl) ?_
      refine RL.nil ?_
      refine RE.sqN ?_
      refine RC.seq ?_
      refine RC.seq ?_
      refine RC.region rfl ?_
      refine RL.q (Qt.mv rfl) ?_
      refine RL.q (Qt.geq rfl rfl) ?_
      refine RL.nil ?_
      refine RE.sqN ?_
      refine RC.cond rfl (fun h3 => ?_) (fun h3 => ?_)
      · skip
        have h3 : (x / 65536) ≥ 256 := of_decide_eq_true h3
        have hl := len8_facts ((x / 65536) / 256) (by omega) (by omega)
        refine RC.seq ?_
        refine RC.region rfl ?_
        refine RL.q (Qt.mv rfl) ?_
        refine RL.q ((by exact Qt.shrD 256 rfl rfl (by decide) (by decide) (by decide))) ?_
        refine RL.q (Qt.as rfl) ?_
        refine RL.nil ?_
        refine RE.sqN ?_
        refine RC.region rfl ?_
        refine RL.q (Qt.mv rfl) ?_
        refine RL.q ((by exact Qt.addI rfl rfl (by dsimp only [inK]; omega))) ?_
        refine RL.q (Qt.as rfl) ?_
        refine RL.nil ?_
        refine RE.sqN ?_
        refine RC.seq ?_
        refine RC.region rfl ?_
        refine RL.q (Qt.mv rfl) ?_
        refine RL.q (Qt.mv rfl) ?_
        refine RL.q ((by exact Qt.cvtI rfl (by dsimp only [inK]; omega))) ?_
        refine RL.q (Qt.ixL8 (by kernel_rfl) rfl (by omega) (by omega)) ?_
        refine RL.q ((by exact Qt.cvtI rfl (by dsimp only [inK]; omega))) ?_
        refine RL.q ((by exact Qt.addI rfl rfl (by dsimp only [inK]; omega))) ?_
        refine RL.q (Qt.as rfl) ?_
        refine RL.nil ?_
        refine RE.sqN ?_
        refine RC.ret ?_
        refine RE.retB rfl ⟨?_, rfl⟩ hS
        have e1 := Lib.bitLen_shift16 (x.toNat) (by omega) (by omega)
        have e2 := Lib.bitLen_shift8 (x.toNat / 65536) (by omega) (by omega)
        have ez : (((x / 65536) / 256)).toNat = x.toNat / 65536 / 256 := by omega
        rw [ez] at hl
        simp only [oneOf, Value.int.injEq, true_and]
        omega
      · skip
        have h3 : ¬ (x / 65536) ≥ 256 := of_decide_eq_false h3
        have hl := len8_facts (x / 65536) (by omega) (by omega)
        refine RC.skip ?_
        refine RE.sqN ?_
        refine RC.seq ?_
        refine RC.region rfl ?_
        refine RL.q (Qt.mv rfl) ?_
        refine RL.q (Qt.mv rfl) ?_
        refine RL.q ((by exact Qt.cvtI rfl (by dsimp only [inK]; omega))) ?_
        refine RL.q (Qt.ixL8 (by kernel_rfl) rfl (by omega) (by omega)) ?_
        refine RL.q ((by exact Qt.cvtI rfl (by dsimp only [inK]; omega))) ?_
        refine RL.q ((by exact Qt.addI rfl rfl (by dsimp only [inK]; omega))) ?_
        refine RL.q (Qt.as rfl) ?_
        refine RL.nil ?_
        refine RE.sqN ?_
        refine RC.ret ?_
        refine RE.retB rfl ⟨?_, rfl⟩ hS
        have e1 := Lib.bitLen_shift16 (x.toNat) (by omega) (by omega)
        have ez : ((x / 65536)).toNat = x.toNat / 65536 := by omega
        rw [ez] at hl
        simp only [oneOf, Value.int.injEq, true_and]
        omega
    · skip
      have h2 : ¬ x ≥ 65536 := of_decide_eq_false h2
      refine RC.skip ?_
      refine RE.sqN ?_
      refine RC.seq ?_
      refine RC.seq ?_
      refine RC.region rfl ?_
      refine RL.q (Qt.mv rfl) ?_
      refine RL.q (Qt.geq rfl rfl) ?_
      refine RL.nil ?_
      refine RE.sqN ?_
      refine RC.cond rfl (fun h3 => ?_) (fun h3 => ?_)
      · skip
        have h3 : x ≥ 256 := of_decide_eq_true h3
        have hl := len8_facts (x / 256) (by omega) (by omega)
        refine RC.seq ?_
        refine RC.region rfl ?_
        refine RL.q (Qt.mv rfl) ?_
        refine RL.q ((by exact Qt.shrD 256 rfl rfl (by decide) (by decide) (by decide))) ?_
        refine RL.q (Qt.as rfl) ?_
        refine RL.nil ?_
        refine RE.sqN ?_
        refine RC.region rfl ?_
        refine RL.q (Qt.mv rfl) ?_
        refine RL.q ((by exact Qt.addI rfl rfl (by dsimp only [inK]; omega))) ?_
        refine RL.q (Qt.as rfl) ?_
        refine RL.nil ?_
        refine RE.sqN ?_
        refine RC.seq ?_
        refine RC.region rfl ?_
        refine RL.q (Qt.mv rfl) ?_
        refine RL.q (Qt.mv rfl) ?_
        refine RL.q ((by exact Qt.cvtI rfl (by dsimp only [inK]; omega))) ?_
        refine RL.q (Qt.ixL8 (by kernel_rfl) rfl (by omega) (by omega)) ?_
        refine RL.q ((by exact Qt.cvtI rfl (by dsimp only [inK]; omega))) ?_
        refine RL.q ((by exact Qt.addI rfl rfl (by dsimp only [inK]; omega))) ?_
        refine RL.q (Qt.as rfl) ?_
        refine RL.nil ?_
        refine RE.sqN ?_
        refine RC.ret ?_
        refine RE.retB rfl ⟨?_, rfl⟩ hS
        have e2 := Lib.bitLen_shift8 (x.toNat) (by omega) (by omega)
        have ez : ((x / 256)).toNat = x.toNat / 256 := by omega
        rw [ez] at hl
        simp only [oneOf, Value.int.injEq, true_and]
        omega
      · skip
        have h3 : ¬ x ≥ 256 := of_decide_eq_false h3
        have hl := len8_facts x (by omega) (by omega)
        refine RC.skip ?_
        refine RE.sqN ?_
        refine RC.seq ?_
        refine RC.region rfl ?_
        refine RL.q (Qt.mv rfl) ?_
        refine RL.q (Qt.mv rfl) ?_
        refine RL.q ((by exact Qt.cvtI rfl (by dsimp only [inK]; omega))) ?_
        refine RL.q (Qt.ixL8 (by kernel_rfl) rfl (by assumption) (by omega)) ?_
        refine RL.q ((by exact Qt.cvtI rfl (by dsimp only [inK]; omega))) ?_
        refine RL.q ((by exact Qt.addI rfl rfl (by dsimp only [inK]; omega))) ?_
        refine RL.q (Qt.as rfl) ?_
        refine RL.nil ?_
        refine RE.sqN ?_
        refine RC.ret ?_
        refine RE.retB rfl ⟨?_, rfl⟩ hS
        have ez : (x).toNat = x.toNat := by omega
        rw [ez] at hl
        simp only [oneOf, Value.int.injEq, true_and]
        omega
end Go.Proofs

/- The queue of levels: the highest flag, Top, Pop, New, Fork. -/
namespace Go.Proofs
open Go Go.Gx
variable {oo : World}

/-- The highest flag among those below a bound, where none is above; 0 where there is none. -/
def HiTo (m : Int → Bool) (b x : Int) : Prop := (∀ v, 0 ≤ v → x < v → v < b → m v = false) ∧ ((x = 0 ∧ ∀ v, 0 ≤ v → v < b → m v = false) ∨ (0 ≤ x ∧ x < b ∧ m x = true))

theorem HiTo.skip {m : Int → Bool} {i x : Int} (h : HiTo m (64 * i) x) (h0 : 0 ≤ i) (hz : ∀ v, 64 * i ≤ v → v < 64 * i + 64 → m v = false) : HiTo m (64 * (i + 1)) x := by
  obtain ⟨h1, h2⟩ := h
  refine ⟨fun v a b c => ?_, ?_⟩
  · by_cases e : v < 64 * i
    · exact h1 v a b e
    · exact hz v (by omega) (by omega)
  · rcases h2 with ⟨e, h3⟩ | ⟨a, b, c⟩
    · refine .inl ⟨e, fun v a c => ?_⟩
      by_cases e : v < 64 * i
      · exact h3 v a e
      · exact hz v (by omega) (by omega)
    · exact .inr ⟨a, by omega, c⟩
theorem HiTo.hit {m : Int → Bool} {i n : Int} (h0 : 0 ≤ i) (hn : 0 ≤ n ∧ n < 64) (ht : m (64 * i + n) = true) (hz : ∀ v, 64 * i + n < v → v < 64 * i + 64 → m v = false) : HiTo m (64 * (i + 1)) (64 * i + n) :=
  ⟨fun v _ b c => hz v b (by omega), .inr ⟨by omega, by omega, ht⟩⟩
theorem HiTo.done {m : Int → Bool} {x : Int} (h : HiTo m 256 x) (hne : ∃ v, 0 ≤ v ∧ v ≤ 255 ∧ m v = true) : IsHi m x := by
  obtain ⟨h1, h2⟩ := h
  rcases h2 with ⟨e, h3⟩ | ⟨a, b, c⟩
  · obtain ⟨v, a, b, c⟩ := hne
    rw [h3 v a (by omega)] at c; cases c
  · exact ⟨.inr ⟨a, by omega, c⟩, fun v b c d => h1 v c b (by omega)⟩

theorem wordsAt (W : Int → Int) {i : Int} (h0 : 0 ≤ i) (h1 : i < 4) : (#[Value.int .u64 (W 0), .int .u64 (W 1), .int .u64 (W 2), .int .u64 (W 3)]).toList[0 + i.toNat * 1]? = some (.int .u64 (W i)) := by
  rcases (show i = 0 ∨ i = 1 ∨ i = 2 ∨ i = 3 by omega) with rfl | rfl | rfl | rfl <;> rfl

set_option maxHeartbeats 2000000 in
theorem numHighest (W : Int → Int) (m : Int → Bool) (hm : MW W m) : Ct Try.prog 88 #[wordsV W] [] (fun v ps => ∃ x, v = .int .i64 x ∧ IsHi m x ∧ ps = []) := by
  refine Ct.enter Try.func88 rfl (Nat.le_of_ble_eq_true rfl) ?_
  intro oo w R hS
  change RC _ _ _ _ _ _ [(0, _)] _
  refine RC.seq ?_
  refine RC.region rfl ?_
  refine RL.e (Ef.box hS rfl) ?_
  rintro _ w ⟨b1, rfl, hS⟩
  try simp (disch := omega) only [List.set_cons_zero, List.set_cons_succ, cells_int, cells_bool, cells_ptr, cells_slice, cells_func, cells_agg, cells_map, cells_int', cells_bool', cells_ptr', cells_slice', cells_agg', cells_map', cells_func', Nat.zero_add, wr, List.setIfInBounds_toArray] at hS
  refine RL.q (Qt.as rfl) ?_
  refine RL.nil ?_
  refine RE.sqN ?_
  refine RC.seq ?_
  refine RC.seq ?_
  refine RC.region rfl ?_
  refine RL.q (Qt.ldA rfl (by exact hS.at 0 rfl) (by first  | rfl) (by exact Nat.le_of_ble_eq_true rfl)) ?_
  refine RL.q (Qt.bldA) ?_
  refine RL.q (Qt.eqlA rfl rfl (by rfl) (by rfl) (by rfl) (by rfl) (by kernel_rfl)) ?_
  refine RL.nil ?_
  refine RE.sqN ?_
  refine RC.cond rfl (fun h => ?_) (fun h => ?_)
  · refine RC.seq ?_
    refine RC.region rfl ?_
    refine RL.q (Qt.as rfl) ?_
    refine RL.nil ?_
    refine RE.sqN ?_
    refine RC.ret ?_
    refine RE.sqR ?_
    have h := of_decide_eq_true h
    have h : W 0 = 0 ∧ W 1 = 0 ∧ W 2 = 0 ∧ W 3 = 0 := by simpa [intV, wordsV] using h
    refine RE.retB rfl ⟨-1, rfl, ⟨.inl rfl, fun v _ h0 h1 => ?_⟩, rfl⟩ (hS.pick [1] (by decide) rfl)
    have hz : ∀ i, 0 ≤ i → i < 4 → W i = 0 := fun i a b => by
      rcases (show i = 0 ∨ i = 1 ∨ i = 2 ∨ i = 3 by omega) with rfl | rfl | rfl | rfl
      · exact h.1
      · exact h.2.1
      · exact h.2.2.1
      · exact h.2.2.2
    exact (hm.isZero (i := v / 64) (by omega) (by omega)).1 (hz _ (by omega) (by omega)) v (by omega) (by omega)
  · skip
    have h := of_decide_eq_false h
    have hne : ∃ v, 0 ≤ v ∧ v ≤ 255 ∧ m v = true := by
      apply Classical.byContradiction
      intro hn
      have hz : ∀ i, 0 ≤ i → i < 4 → W i = 0 := fun i a b => (hm.isZero a b).2 fun v c d => by
        cases hv : m v with
        | false => rfl
        | true => exact absurd ⟨v, by omega, by omega, hv⟩ hn
      apply h
      simp [intV, wordsV, hz 0 (by decide) (by decide), hz 1 (by decide) (by decide), hz 2 (by decide) (by decide), hz 3 (by decide) (by decide)]
    refine RC.skip ?_
    refine RE.sqN ?_
    refine RC.seq ?_
    refine RC.region rfl ?_
    refine RL.q (Qt.as rfl) ?_
    refine RL.nil ?_
    refine RE.sqN ?_
    refine RC.seq ?_
    refine RC.seq ?_
    refine RC.region rfl ?_
    refine RL.q (Qt.mv rfl) ?_
    refine RL.nil ?_
    refine RE.sqN ?_
    refine RC.block ?_
    refine RC.loop (γ := Int × Int) (fun g E w' => E = [(8, .int .i64 g.1), (3, .int .i64 g.2), (1, .pointer (some ⟨b1, 0, none⟩))] ∧ Sat oo w' [pt b1 (.cells #[.int .u64 (W 0), .int .u64 (W 1), .int .u64 (W 2), .int .u64 (W 3)] 116 (0, 0)), R] ∧ (0 ≤ g.1 ∧ g.1 ≤ 4) ∧ HiTo m (64 * g.1) g.2) (fun g => (4 - g.1).toNat) (0, 0) _ (by (repeat (first | exact Sub.nil | refine Sub.cons rfl ?_))) ⟨rfl, hS, by simp, fun v a b c => by simp at c; omega, .inl ⟨rfl, fun v a c => by simp at c; omega⟩⟩ ?_
    clear hS
    rintro ⟨i, x⟩ E w ⟨rfl, hS, hi, hx⟩
    dsimp only at hi hx
    refine RC.seq ?_
    refine RC.region rfl ?_
    refine RL.q (Qt.lss rfl rfl) ?_
    refine RL.nil ?_
    refine RE.sqN ?_
    refine RC.seq ?_
    refine RC.cond rfl (fun h2 => ?_) (fun h2 => ?_)
    · skip
      have h2 : i < 4 := of_decide_eq_true h2
      have hr := hm.rng i hi.1 h2
      dsimp only [inK] at hr
      refine RC.skip ?_
      refine RE.sqN ?_
      refine RC.seq ?_
      refine RC.block ?_
      refine RC.seq ?_
      refine RC.region rfl ?_
      refine RL.q (Qt.mv rfl) ?_
      refine RL.q (Qt.as rfl) ?_
      refine RL.nil ?_
      refine RE.sqN ?_
      refine RC.seq ?_
      refine RC.region rfl ?_
      refine RL.q (Qt.mv rfl) ?_
      refine RL.q (Qt.ixA rfl rfl (by omega) (by assumption)) ?_
      refine RL.q (Qt.ld rfl (by exact hS.at 0 rfl) (by exact wordsAt W hi.1 h2)) ?_
      refine RL.q (Qt.neq rfl rfl) ?_
      refine RL.nil ?_
      refine RE.sqN ?_
      refine RC.cond rfl (fun h3 => ?_) (fun h3 => ?_)
      · skip
        have h3 : W i ≠ 0 := of_decide_eq_true h3
        obtain ⟨n, e1, e2, e3, e4, e5⟩ := hm.len hi.1 h2 h3
        have hl : (0 : Int) ≤ Lib.bitLen (W i).toNat := Int.natCast_nonneg _
        refine RC.region rfl ?_
        refine RL.q (Qt.mv rfl) ?_
        refine RL.q ((by exact Qt.mulI rfl rfl (by dsimp only [inK]; omega))) ?_
        refine RL.q (Qt.mv rfl) ?_
        refine RL.q (Qt.ixA rfl rfl (by omega) (by assumption)) ?_
        refine RL.q (Qt.ld rfl (by exact hS.at 0 rfl) (by exact wordsAt W hi.1 h2)) ?_
        refine RL.e (Ef.call hS (bitsLen64 (W i) hr.1 hr.2) rfl rfl Try.call102 [] [0, 1] (by decide) rfl rfl) ?_
        rintro v20 w ⟨ps, ⟨rfl, rfl⟩, hS⟩
        try rw [List.nil_append] at hS
        refine RL.q ((by exact Qt.addI rfl rfl (by dsimp only [inK]; omega))) ?_
        refine RL.q ((by exact Qt.subI rfl rfl (by dsimp only [inK]; omega))) ?_
        refine RL.q (Qt.as rfl) ?_
        refine RL.nil ?_
        refine RE.bkN ?_
        refine RE.sqN ?_
        refine RC.region rfl ?_
        refine RL.q ((by exact Qt.addI rfl rfl (by dsimp only [inK]; omega))) ?_
        refine RL.q (Qt.mv rfl) ?_
        refine RL.nil ?_
        apply RE.lpN ((i + 1, 64 * i + (Lib.bitLen (W i).toNat : Int) - 1))
        case hI => exact ⟨rfl, hS, by dsimp only; omega, by dsimp only; rw [show 64 * i + (Lib.bitLen (W i).toNat : Int) - 1 = 64 * i + n by omega]; exact HiTo.hit hi.1 ⟨e2, e3⟩ e4 e5⟩
        case hs => (repeat (first | exact Sub.nil | refine Sub.cons rfl ?_))
        case hm =>
          show (4 - (i + 1)).toNat < (4 - i).toNat
          omega
      · refine RC.skip ?_
        refine RE.bkN ?_
        refine RE.sqN ?_
        refine RC.region rfl ?_
        refine RL.q ((by exact Qt.addI rfl rfl (by dsimp only [inK]; omega))) ?_
        refine RL.q (Qt.mv rfl) ?_
        refine RL.nil ?_
        have h3 : W i = 0 := by simpa using of_decide_eq_false h3
        apply RE.lpN ((i + 1, x))
        case hI => exact ⟨rfl, hS, by dsimp only; omega, hx.skip hi.1 ((hm.isZero hi.1 h2).1 h3)⟩
        case hs => (repeat (first | exact Sub.nil | refine Sub.cons rfl ?_))
        case hm =>
          show (4 - (i + 1)).toNat < (4 - i).toNat
          omega
    · refine RC.exit ?_
      refine RE.sqX ?_
      refine RE.lpX ?_
      refine RE.bkX ?_
      refine RE.sqN ?_
      refine RC.seq ?_
      refine RC.region rfl ?_
      refine RL.q (Qt.mv rfl) ?_
      refine RL.q (Qt.as rfl) ?_
      refine RL.nil ?_
      refine RE.sqN ?_
      refine RC.ret ?_
      have h2 : ¬ i < 4 := of_decide_eq_false h2
      have : i = 4 := by omega
      subst this
      exact RE.retB rfl ⟨x, rfl, hx.done hne, rfl⟩ (hS.pick [1] (by decide) rfl)

set_option maxHeartbeats 1000000 in
theorem bqTop (p : Value) (n : Nat) (l : List RItem) : Ct Try.prog 69 #[p] [qO p n l] (fun v ps => v = rTop l ∧ ps = [qO p n l]) := by
  refine Ct.enter Try.func69 rfl (Nat.le_of_ble_eq_true rfl) ?_
  intro oo w R hS
  change RC _ _ _ _ _ _ [(0, _)] _
  refine RC.seq ?_
  refine RC.region rfl ?_
  refine RL.q (Qt.as rfl) ?_
  refine RL.q (Qt.as rfl) ?_
  refine RL.q (Qt.as rfl) ?_
  refine RL.nil ?_
  refine RE.sqN ?_
  refine RC.seq ?_
  refine RC.region rfl ?_
  refine RL.q (Qt.mv rfl) ?_
  refine RL.e (Ef.call hS (bqMask p n l) rfl rfl Try.call89 [0] [1] (by decide) rfl rfl) ?_
  rintro v7 w ⟨ps, ⟨⟨W, rfl, hm⟩, rfl⟩, hS⟩
  refine RL.e (Ef.call hS (numHighest W _ hm) rfl rfl Try.call88 [] [0, 1] (by decide) rfl rfl) ?_
  rintro v8 w ⟨ps, ⟨x, rfl, hx, rfl⟩, hS⟩
  try rw [List.nil_append] at hS
  refine RL.q (Qt.as rfl) ?_
  refine RL.nil ?_
  refine RE.sqN ?_
  refine RC.seq ?_
  refine RC.seq ?_
  refine RC.region rfl ?_
  refine RL.q (Qt.mv rfl) ?_
  refine RL.q (Qt.lss rfl rfl) ?_
  refine RL.nil ?_
  refine RE.sqN ?_
  obtain ⟨q, W', b, bl, cap, c, cl, rfl, hq, hS⟩ := qO_open hS
  obtain ⟨t1, t2⟩ := rTop_hi hx (fun v _ _ => by simp [lvM]) (fun y hy => (hq.ri.range y hy).2)
  refine RC.cond rfl (fun h => ?_) (fun h => ?_)
  · refine RC.seq ?_
    refine RC.region rfl ?_
    refine RL.q (Qt.as rfl) ?_
    refine RL.q (Qt.as rfl) ?_
    refine RL.q (Qt.as rfl) ?_
    refine RL.nil ?_
    refine RE.sqN ?_
    refine RC.ret ?_
    refine RE.sqR ?_
    have h : x < 0 := of_decide_eq_true h
    have t3 := (t1 h).2
    refine RE.retB rfl ⟨?_, rfl⟩ (qO_shut hq hS)
    rw [rTop, if_pos (by omega)]; rfl
  · skip
    have h : ¬ x < 0 := of_decide_eq_false h
    obtain ⟨a1, a2, a3, a4, a5⟩ := t2 (by omega)
    have hf := hq.qc.first x (by omega) a2
    rw [(hq.ri.seg x (by omega) a2).2.1, a4] at hf
    have hS0 := hS
    refine RC.skip ?_
    refine RE.sqN ?_
    refine RC.seq ?_
    refine RC.drawn 11 [0, 1, 2, 3, 4, 5, 6, 7, 8, 9, 10] (Same _) (by kernel_rfl) (by kernel_rfl) Same.drew (fun hh => ?_)
    replace hS := hS.drew
    refine RH.q hh (Calm.sq Calm.body) rfl (by kernel_rfl) (Qt.mv rfl) ?_
    refine RH.q hh (Calm.sq Calm.body) rfl (by kernel_rfl) ((by exact Qt.cvtI rfl (by dsimp only [inK]; omega))) ?_
    refine RH.q hh (Calm.sq Calm.body) rfl (by kernel_rfl) (Qt.mv rfl) ?_
    refine RH.q hh (Calm.sq Calm.body) rfl (by kernel_rfl) (Qt.mv rfl) ?_
    refine RH.q hh (Calm.sq Calm.body) rfl (by kernel_rfl) (Qt.nil rfl) ?_
    refine RH.q hh (Calm.sq Calm.body) rfl (by kernel_rfl) (Qt.fld rfl) ?_
    refine RH.q hh (Calm.sq Calm.body) rfl (by kernel_rfl) (Qt.ixA rfl rfl (by omega) (by omega)) ?_
    refine RH.q hh (Calm.sq Calm.body) rfl (by kernel_rfl) (Qt.ld rfl (by exact hS.at 0 rfl) (by exact hf)) ?_
    refine RH.q hh (Calm.sq Calm.body) rfl (by kernel_rfl) (Qt.as rfl) ?_
    refine RH.q hh (Calm.sq Calm.body) rfl (by kernel_rfl) (Qt.as rfl) ?_
    refine RH.q hh (Calm.sq Calm.body) rfl (by kernel_rfl) (Qt.as rfl) ?_
    refine RH.done hh (by kernel_rfl) ?_
    refine RL.nil ?_
    refine RE.sqN ?_
    refine RC.ret ?_
    refine RE.retB rfl ⟨?_, rfl⟩ (qO_shut hq hS0.drew)
    rw [rTop, if_neg (by omega), a3]; rfl

theorem zQ (v : Value) : QC (fun _ => 0) (fun _ => 0) (fun _ => 0) 0 v (wr (zrun [(1, .slice none 0 0), (512, .int .i64 0), (4, .int .u64 0), (1, .int .i64 0)]) 0 [v]) := by
  have h : QC (fun _ => 0) (fun _ => 0) (fun _ => 0) 0 (.slice none 0 0) (zrun [(1, .slice none 0 0), (512, .int .i64 0), (4, .int .u64 0), (1, .int .i64 0)]) := by
    refine ⟨zrun_size _, by rw [zrun_get]; rfl, ?_, ?_, ?_, by rw [zrun_get]; rfl⟩
    · intro v h0 h1
      rw [zrun_get]
      simp only [zat]
      rw [if_neg (by omega), if_pos (by omega)]
    · intro v h0 h1
      rw [zrun_get]
      simp only [zat]
      rw [if_neg (by omega), if_pos (by omega)]
    · intro v h0 h1
      rw [zrun_get]
      simp only [zat]
      rw [if_neg (by omega), if_neg (by omega), if_pos (by omega)]
  exact h.setLinks v
theorem fillQ (v : Value) (hv : v.cells = #[v]) : Instr.fill (fun x => (#[(0, 1), (1, 256), (257, 256), (513, 4), (517, 1)] : Array (Nat × Nat))[x]?) (Value.cells (.agg (zrun [(1, .slice none 0 0), (512, .int .i64 0), (4, .int .u64 0), (1, .int .i64 0)]))) [(0, v)] = some (wr (zrun [(1, .slice none 0 0), (512, .int .i64 0), (4, .int .u64 0), (1, .int .i64 0)]) 0 [v]) := by
  rw [cells_agg']
  exact fill1 rfl hv (by rw [zrun_size]; decide)

theorem upd_lt (i v : Int) : (if v < i + 1 then (-1 : Int) else 0) = upd (fun v => if v < i then -1 else 0) i (-1) v := by
  by_cases e : v = i
  · subst e; rw [upd_same, if_pos (by omega)]
  · rw [upd_ne _ _ e]
    by_cases e2 : v < i
    · rw [if_pos (by omega), if_pos e2]
    · rw [if_neg (by omega), if_neg e2]

set_option maxHeartbeats 1000000 in
theorem bqNew (n : Int) (h0 : 1 ≤ n) (h1 : n ≤ 1024) : Ct Try.prog 60 #[.int .i64 n] [] (fun v ps => ps = [qO v n.toNat []]) := by
  refine Ct.enter Try.func60 rfl (Nat.le_of_ble_eq_true rfl) ?_
  intro oo w R hS
  change RC _ _ _ _ _ _ [(0, _)] _
  refine RC.seq ?_
  refine RC.region rfl ?_
  refine RL.q (Qt.as rfl) ?_
  refine RL.nil ?_
  refine RE.sqN ?_
  refine RC.seq ?_
  refine RC.seq ?_
  refine RC.region rfl ?_
  refine RL.q (Qt.mv rfl) ?_
  refine RL.q (Qt.lss rfl rfl) ?_
  refine RL.q (Qt.mv rfl) ?_
  refine RLG.start 7 false rfl ?_
  refine RLG.q rfl rfl rfl (fun _ => Qt.mv rfl) ?_
  refine RLG.q rfl rfl rfl (fun hg => by (try simp only [decide_eq_false_iff_not] at hg); exact Qt.gtr rfl rfl) ?_
  refine RLG.or rfl rfl ?_
  refine RL.nil ?_
  refine RE.sqN ?_
  refine RC.condF rfl (by simp; omega) ?_
  refine RC.skip ?_
  refine RE.sqN ?_
  refine RC.seq ?_
  refine RC.region rfl ?_
  refine RL.q (Qt.mv rfl) ?_
  refine RL.e (Ef.mks hS rfl (by omega) (by omega) (by decide)) ?_
  rintro _ w ⟨b12, rfl, hS⟩
  refine RL.q (Qt.bld rfl (fillQ _ rfl)) ?_
  refine RL.e (Ef.box hS rfl) ?_
  rintro _ w ⟨b14, rfl, hS⟩
  try simp (disch := omega) only [cells_agg'] at hS
  refine RL.q (Qt.as rfl) ?_
  refine RL.nil ?_
  refine RE.sqN ?_
  refine RC.seq ?_
  refine RC.seq ?_
  refine RC.region rfl ?_
  refine RL.q (Qt.mv rfl) ?_
  refine RL.nil ?_
  refine RE.sqN ?_
  refine RC.block ?_
  have hla : LA (fun _ => 0) (fun _ => 0) (fun _ => 0) (fun _ => false) n.toNat ((Array.range (n.toNat * 4)).map ((#[Value.int .i64 0, .int .i64 0, .int .u8 0, .bool false])[· % (#[Value.int .i64 0, .int .i64 0, .int .u8 0, .bool false]).size]!)) := by
    have hg : ∀ (i : Int) (j : Nat), 0 ≤ i → i < n.toNat → j < 4 → ((Array.range (n.toNat * 4)).map ((#[Value.int .i64 0, .int .i64 0, .int .u8 0, .bool false])[· % (#[Value.int .i64 0, .int .i64 0, .int .u8 0, .bool false]).size]!)).toList[0 + i.toNat * 4 + j]? = some ((#[Value.int .i64 0, .int .i64 0, .int .u8 0, .bool false])[j]!) := fun i j a b c => by
      rw [Array.getElem?_toList, Array.getElem?_map, Array.getElem?_range, if_pos (by omega)]
      simp only [Option.map_some]
      rw [show (0 + i.toNat * 4 + j) % (#[Value.int IntKind.i64 0, .int .i64 0, .int .u8 0, .bool false]).size = j by
        show (0 + i.toNat * 4 + j) % 4 = j
        omega]
    exact ⟨by simp, fun i a b => hg i 0 a b (by decide), fun i a b => hg i 1 a b (by decide), fun i a b => hg i 2 a b (by decide), fun i a b => hg i 3 a b (by decide)⟩
  generalize ((Array.range (n.toNat * 4)).map ((#[Value.int .i64 0, .int .i64 0, .int .u8 0, .bool false])[· % (#[Value.int .i64 0, .int .i64 0, .int .u8 0, .bool false]).size]!)) = cl at hS hla
  have hq := zQ (.slice (some ⟨b12, 0, none⟩) n.toNat n.toNat)
  generalize wr (zrun [(1, .slice none 0 0), (512, .int .i64 0), (4, .int .u64 0), (1, .int .i64 0)]) 0 [.slice (some ⟨b12, 0, none⟩) n.toNat n.toNat] = c0 at hS hq
  refine RC.loop (γ := Int × Array Value) (fun g E w' => E = [(15, .int .i64 g.1), (3, .pointer (some ⟨b14, 0, none⟩))] ∧ Sat oo w' [pt b14 (.cells g.2 118 (0, 0)), pt b12 (.cells cl 139 (0, 0)), R] ∧ (0 ≤ g.1 ∧ g.1 ≤ 256) ∧ QC (fun v => if v < g.1 then -1 else 0) (fun v => if v < g.1 then -1 else 0) (fun _ => 0) 0 (.slice (some ⟨b12, 0, none⟩) n.toNat n.toNat) g.2) (fun g => (256 - g.1).toNat) (0, c0) _ (by (repeat (first | exact Sub.nil | refine Sub.cons rfl ?_))) ⟨rfl, hS, by simp, ?_⟩ ?_
  · refine hq.congr (fun v a b => ?_) (fun v a b => ?_)
    · simp only; rw [if_neg (by omega)]
    · simp only; rw [if_neg (by omega)]
  clear hS hq
  rintro ⟨i, c⟩ E w ⟨rfl, hS, hi, hq⟩
  dsimp only at hi hq
  refine RC.seq ?_
  refine RC.region rfl ?_
  refine RL.q (Qt.lss rfl rfl) ?_
  refine RL.nil ?_
  refine RE.sqN ?_
  refine RC.seq ?_
  refine RC.cond rfl (fun h2 => ?_) (fun h2 => ?_)
  · skip
    have h2 : i < 256 := of_decide_eq_true h2
    have hz := hq.size
    refine RC.skip ?_
    refine RE.sqN ?_
    refine RC.seq ?_
    refine RC.block ?_
    refine RC.seq ?_
    refine RC.region rfl ?_
    refine RL.q (Qt.mv rfl) ?_
    refine RL.q (Qt.as rfl) ?_
    refine RL.nil ?_
    refine RE.sqN ?_
    refine RC.drawn 10 [0, 1, 2, 3, 4, 5, 6, 8, 9, 7] (fun _ => True) (by kernel_rfl) (by kernel_rfl) trivial (fun hh => ?_)
    replace hS := hS.drew
    refine RH.q hh (Calm.bk (Calm.sq (Calm.lp (Calm.bk (Calm.sq Calm.body))))) rfl (by kernel_rfl) (Qt.mv rfl) ?_
    refine RH.q hh (Calm.bk (Calm.sq (Calm.lp (Calm.bk (Calm.sq Calm.body))))) rfl (by kernel_rfl) (Qt.mv rfl) ?_
    refine RH.q hh (Calm.bk (Calm.sq (Calm.lp (Calm.bk (Calm.sq Calm.body))))) rfl (by kernel_rfl) (Qt.mv rfl) ?_
    refine RH.q hh (Calm.bk (Calm.sq (Calm.lp (Calm.bk (Calm.sq Calm.body))))) rfl (by kernel_rfl) (Qt.mv rfl) ?_
    refine RH.q hh (Calm.bk (Calm.sq (Calm.lp (Calm.bk (Calm.sq Calm.body))))) rfl (by kernel_rfl) (Qt.nil rfl) ?_
    refine RH.q hh (Calm.bk (Calm.sq (Calm.lp (Calm.bk (Calm.sq Calm.body))))) rfl (by kernel_rfl) (Qt.fld rfl) ?_
    refine RH.q hh (Calm.bk (Calm.sq (Calm.lp (Calm.bk (Calm.sq Calm.body))))) rfl (by kernel_rfl) (Qt.ixA rfl rfl (by omega) (by assumption)) ?_
    refine RH.q hh (Calm.bk (Calm.sq (Calm.lp (Calm.bk (Calm.sq Calm.body))))) rfl (by kernel_rfl) (Qt.nil rfl) ?_
    refine RH.q hh (Calm.bk (Calm.sq (Calm.lp (Calm.bk (Calm.sq Calm.body))))) rfl (by kernel_rfl) (Qt.fld rfl) ?_
    refine RH.e0 hh rfl (by kernel_rfl) (Ef.st hS 0 rfl rfl rfl (by rfl) (by rfl) (by (simp only []; omega))) ?_
    intro _ w hS
    simp (disch := omega) only [List.set_cons_zero, cells_int', Nat.zero_add, List.set_cons_zero] at hS
    refine ⟨trivial, ?_⟩
    refine RH.done hh (by kernel_rfl) ?_
    refine RL.q (Qt.ixA rfl rfl (by omega) (by assumption)) ?_
    refine RL.e0 (Ef.st hS 0 rfl rfl rfl (by rfl) (by rfl) (by (simp only [wr_size]; omega))) ?_
    intro _ w hS
    simp (disch := omega) only [List.set_cons_zero, cells_int', Nat.zero_add, List.set_cons_zero] at hS
    refine RL.nil ?_
    refine RE.bkN ?_
    refine RE.sqN ?_
    refine RC.region rfl ?_
    refine RL.q ((by exact Qt.addI rfl rfl (by dsimp only [inK]; omega))) ?_
    refine RL.q (Qt.mv rfl) ?_
    refine RL.nil ?_
    have hq1 := (hq.setFirst hi.1 (by omega) (-1)).setLast hi.1 (by omega) (-1)
    apply RE.lpN ((i + 1, _))
    case hI => exact ⟨rfl, hS, by dsimp only; omega, hq1.congr (fun v _ _ => upd_lt i v) (fun v _ _ => upd_lt i v)⟩
    case hs => (repeat (first | exact Sub.nil | refine Sub.cons rfl ?_))
    case hm =>
      show (256 - (i + 1)).toNat < (256 - i).toNat
      omega
  · refine RC.exit ?_
    refine RE.sqX ?_
    refine RE.lpX ?_
    refine RE.bkX ?_
    refine RE.sqN ?_
    refine RC.seq ?_
    refine RC.region rfl ?_
    refine RL.q (Qt.mv rfl) ?_
    refine RL.q (Qt.as rfl) ?_
    refine RL.nil ?_
    refine RE.sqN ?_
    refine RC.ret ?_
    have h2 : ¬ i < 256 := of_decide_eq_false h2
    refine RE.retB rfl (ps := [qO _ n.toNat []]) rfl (qO_shut (q := ⟨fun _ => 0, fun _ => 0, fun _ => 0, fun _ => false, fun _ => -1, fun _ => -1, fun _ => false, 0⟩) (W := fun _ => 0) ⟨?_, MW.zero, by omega, by omega, hq.congr (fun v a b => (if_pos (by omega)).symm) (fun v a b => (if_pos (by omega)).symm), hla⟩ hS)
    refine ⟨by simp, by simp, by simp, by simp, fun v a b => ⟨trivial, rfl, rfl⟩, by simp [rIds], rfl⟩
end Go.Proofs

/- The queue of levels: Fork and List. -/
namespace Go.Proofs
open Go Go.Gx

theorem LA.copy {ahead behind lv : Int → Int} {there : Int → Bool} {n : Nat} {c c' : Array Value} (h : LA ahead behind lv there n c) (hs : n * 4 ≤ c'.size) (he : c'.toList.take (n * 4) = c.toList.take (n * 4)) : LA ahead behind lv there n c' := by
  have hg : ∀ k, k < n * 4 → c'.toList[k]? = c.toList[k]? := fun k hk => by
    have : (c'.toList.take (n * 4))[k]? = (c.toList.take (n * 4))[k]? := by rw [he]
    rwa [List.getElem?_take_of_lt hk, List.getElem?_take_of_lt hk] at this
  exact ⟨hs, fun i a b => by rw [hg _ (by omega)]; exact h.ahead i a b, fun i a b => by rw [hg _ (by omega)]; exact h.behind i a b, fun i a b => by rw [hg _ (by omega)]; exact h.lv i a b, fun i a b => by rw [hg _ (by omega)]; exact h.there i a b⟩
theorem LA.plain {ahead behind lv : Int → Int} {there : Int → Bool} {n : Nat} {c : Array Value} (h : LA ahead behind lv there n c) : (List.take (n * 4) (List.drop 0 c.toList)).all Value.plain = true := by
  rw [List.all_eq_true]
  intro x hx
  obtain ⟨k, hk, rfl⟩ := List.getElem_of_mem hx
  simp only [List.drop_zero, List.length_take] at hk
  have h1 : k / 4 < n := by omega
  have e : (List.take (n * 4) (List.drop 0 c.toList))[k]? = c.toList[k]? := by rw [List.drop_zero, List.getElem?_take_of_lt (by omega)]
  have g : (List.take (n * 4) (List.drop 0 c.toList))[k]? = some (List.take (n * 4) (List.drop 0 c.toList))[k] := List.getElem?_eq_getElem _
  rw [g] at e
  rcases (show k % 4 = 0 ∨ k % 4 = 1 ∨ k % 4 = 2 ∨ k % 4 = 3 by omega) with h2 | h2 | h2 | h2
  · have := h.ahead (k / 4 : Nat) (by omega) (by omega)
    rw [show 0 + ((k / 4 : Nat) : Int).toNat * 4 + 0 = k by omega, ← e] at this
    rw [Option.some.inj this]; rfl
  · have := h.behind (k / 4 : Nat) (by omega) (by omega)
    rw [show 0 + ((k / 4 : Nat) : Int).toNat * 4 + 1 = k by omega, ← e] at this
    rw [Option.some.inj this]; rfl
  · have := h.lv (k / 4 : Nat) (by omega) (by omega)
    rw [show 0 + ((k / 4 : Nat) : Int).toNat * 4 + 2 = k by omega, ← e] at this
    rw [Option.some.inj this]; rfl
  · have := h.there (k / 4 : Nat) (by omega) (by omega)
    rw [show 0 + ((k / 4 : Nat) : Int).toNat * 4 + 3 = k by omega, ← e] at this
    rw [Option.some.inj this]; rfl
theorem QC.plain {first last W : Int → Int} {many : Int} {s : Value} {c : Array Value} (h : QC first last W many s c) (hs : Value.plain s = true) : c.toList.all Value.plain = true := by
  rw [List.all_eq_true]
  intro x hx
  obtain ⟨k, hk, rfl⟩ := List.getElem_of_mem hx
  have hz := h.size
  simp only [Array.length_toList] at hk
  have g : c.toList[k]? = some c.toList[k] := by simp
  by_cases h0 : k = 0
  · subst h0
    have := h.links
    rw [g] at this
    rw [Option.some.inj this]; exact hs
  · by_cases h1 : k ≤ 256
    · have := h.first (k - 1 : Nat) (by omega) (by omega)
      rw [show 0 + 1 + ((k - 1 : Nat) : Int).toNat * 1 = k by omega, g] at this
      rw [Option.some.inj this]; rfl
    · by_cases h2 : k ≤ 512
      · have := h.last (k - 257 : Nat) (by omega) (by omega)
        rw [show 0 + 257 + ((k - 257 : Nat) : Int).toNat * 1 = k by omega, g] at this
        rw [Option.some.inj this]; rfl
      · by_cases h3 : k ≤ 516
        · have := h.mask (k - 513 : Nat) (by omega) (by omega)
          rw [show 0 + 513 + ((k - 513 : Nat) : Int).toNat * 1 = k by omega, g] at this
          rw [Option.some.inj this]; rfl
        · have := h.many
          have e : k = 517 := by omega
          subst e
          rw [g] at this
          rw [Option.some.inj this]; rfl

set_option maxHeartbeats 1000000 in
theorem bqClone {ahead behind lv : Int → Int} {there : Int → Bool} {n : Nat} {cl : Array Value} (h : LA ahead behind lv there n cl) (bl cap : Nat) (h0 : 1 ≤ n) (h1 : n ≤ 1024) : Ct Try.prog 97 #[.slice (some ⟨bl, 0, none⟩) n cap] [pt bl (.cells cl 139 (0, 0))]
    (fun v ps => ∃ b' cap' cl', v = .slice (some ⟨b', 0, none⟩) n cap' ∧ LA ahead behind lv there n cl' ∧ ps = [pt b' (.cells cl' 139 (0, 0)), pt bl (.cells cl 139 (0, 0))]) := by
  refine Ct.enter Try.func97 rfl (Nat.le_of_ble_eq_true rfl) ?_
  intro oo w R hS
  change RC _ _ _ _ _ _ [(0, _)] _
  have hsz := h.size
  refine RC.seq ?_
  refine RC.region rfl ?_
  refine RL.q (Qt.as rfl) ?_
  refine RL.nil ?_
  refine RE.sqN ?_
  refine RC.seq ?_
  refine RC.seq ?_
  refine RC.region rfl ?_
  refine RL.q (Qt.mv rfl) ?_
  refine RL.q (Qt.eqlS rfl rfl) ?_
  refine RL.nil ?_
  refine RE.sqN ?_
  refine RC.condF rfl (rfl) ?_
  refine RC.skip ?_
  refine RE.sqN ?_
  refine RC.seq ?_
  refine RC.region rfl ?_
  refine RL.e (Ef.bsl0 hS) ?_
  rintro _ w ⟨b5, rfl, hS⟩
  try simp (disch := omega) only [List.set_cons_zero, List.set_cons_succ, cells_int, cells_bool, cells_ptr, cells_slice, cells_func, cells_agg, cells_map, cells_int', cells_bool', cells_ptr', cells_slice', cells_agg', cells_map', cells_func', Nat.zero_add, wr, List.setIfInBounds_toArray] at hS
  refine RL.q (Qt.mv rfl) ?_
  refine RL.e (Ef.app (k := 0) hS rfl rfl rfl (Src.pt (hS.get 1 rfl) (by omega)) (by omega) h.plain) ?_
  intro s7 w hS
  simp only [List.set_cons_zero, List.drop_zero] at hS
  (obtain ⟨sp7, cp7, rfl⟩ := hS.ownForm 0 rfl)
  refine RL.q (Qt.as rfl) ?_
  refine RL.nil ?_
  refine RE.sqN ?_
  refine RC.ret ?_
  obtain ⟨b, cap', c', hv, hc1, hc2, hc3, hc4, hS⟩ := hS.ownPos 0 rfl (by omega)
  cases hv
  simp only [Nat.zero_add, List.nil_append] at hc3 hc4
  exact RE.retB rfl ⟨_, cp7, c', by simp only [oneOf, Nat.zero_add], h.copy (by omega) hc4, rfl⟩ (hS.pick [0, 1, 2] (by decide) rfl)

theorem extract_all {c : Array Value} {n : Nat} (h : c.size = n) : c.extract 0 (0 + n) = c := by
  subst h; simp

set_option maxHeartbeats 1000000 in
theorem bqFork (p : Value) (n : Nat) (l : List RItem) : Ct Try.prog 79 #[p] [qO p n l] (fun v ps => ps = [qO v n l, qO p n l]) := by
  refine Ct.enter Try.func79 rfl (Nat.le_of_ble_eq_true rfl) ?_
  intro oo w R hS
  change RC _ _ _ _ _ _ [(0, _)] _
  obtain ⟨q, W, b, bl, cap, c, cl, rfl, hq, hS⟩ := qO_open hS
  have hsz := hq.qc.size
  refine RC.seq ?_
  refine RC.region rfl ?_
  refine RL.q (Qt.as rfl) ?_
  refine RL.nil ?_
  refine RE.sqN ?_
  refine RC.seq ?_
  refine RC.seq ?_
  refine RC.region rfl ?_
  refine RL.q (Qt.mv rfl) ?_
  refine RL.q (Qt.eqlN rfl rfl) ?_
  refine RL.nil ?_
  refine RE.sqN ?_
  refine RC.condF rfl (rfl) ?_
  refine RC.skip ?_
  refine RE.sqN ?_
  refine RC.seq ?_
  refine RC.region rfl ?_
  refine RL.q (Qt.mv rfl) ?_
  refine RL.q (Qt.nil rfl) ?_
  refine RL.q (Qt.ldA rfl (by exact hS.at 0 rfl) (by exact extract_all hsz) (by omega)) ?_
  refine RL.e (Ef.alloc hS) ?_
  rintro _ w ⟨b3, rfl, hS⟩
  try simp (disch := omega) only [cells_agg'] at hS
  refine RL.e0 (Ef.st hS 0 rfl rfl rfl hsz (hq.qc.plain rfl) (by (simp only [zrun_size]; exact Nat.le_of_ble_eq_true rfl))) ?_
  intro _ w hS
  simp (disch := omega) only [List.set_cons_zero, cells_agg', List.set_cons_zero] at hS
  refine RL.nil ?_
  refine RE.sqN ?_
  refine RC.seq ?_
  refine RC.region rfl ?_
  refine RL.q (Qt.mv rfl) ?_
  refine RL.q (Qt.nil rfl) ?_
  refine RL.q (Qt.fld rfl) ?_
  refine RL.q (Qt.ld rfl (by exact hS.at 1 rfl) (by exact hq.qc.links)) ?_
  rw [wr_all _ _ (by rw [zrun_size]; exact hsz.symm), Array.toArray_toList] at hS
  refine RL.e (Ef.call hS (bqClone hq.la bl cap hq.pos hq.max) rfl rfl Try.call97 [2] [0, 1, 3] (by decide) rfl rfl) ?_
  rintro v13 w ⟨ps, ⟨b', cap', cl', rfl, hla, rfl⟩, hS⟩
  refine RL.q (Qt.fld rfl) ?_
  refine RL.e0 (Ef.st hS 2 rfl rfl rfl (by rfl) (by rfl) (by omega)) ?_
  intro _ w hS
  simp (disch := omega) only [cells_slice', Nat.zero_add] at hS
  refine RL.nil ?_
  refine RE.sqN ?_
  refine RC.seq ?_
  refine RC.region rfl ?_
  refine RL.q (Qt.as rfl) ?_
  refine RL.nil ?_
  refine RE.sqN ?_
  refine RC.ret ?_
  have hq2 := hq.qc.setLinks (.slice (some ⟨b', 0, none⟩) n cap')
  have hS := qO_shut (cap := cap') ⟨hq.ri, hq.mw, hq.pos, hq.max, hq2, hla⟩ (hS.pick [2, 0, 3, 1, 4] (by decide) rfl)
  have hS := qO_shut hq (hS.pick [1, 2, 0, 3] (by decide) rfl)
  exact RE.retB rfl (ps := [qO _ n l, qO _ n l]) rfl (hS.pick [1, 0, 2] (by decide) rfl)
end Go.Proofs

/- The queue of levels: at and List. -/
namespace Go.Proofs
open Go Go.Gx
variable {oo : World}

theorem Seg.behindAt {q : BQ} : ∀ {s : List Int} {p nx : Int}, Seg q p s nx → ∀ (k : Nat) (hk : k < s.length), q.behind s[k] = (s.drop (k + 1)).headD nx
  | [], _, _, _, _, hk => by simp at hk
  | a :: t, p, nx, ⟨_, h2, _⟩, 0, _ => by simpa using h2
  | a :: t, p, nx, ⟨_, _, h3⟩, k + 1, hk => by
    have := Seg.behindAt h3 k (by simpa using hk)
    simpa using this

set_option maxHeartbeats 1000000 in
theorem bqAt (p : Value) (lv : Int) : Ct Try.prog 91 #[p, .int .u8 lv] [] (fun v ps => ∃ b1 b2, v = .func (.func 104) #[] #[.pointer (some ⟨b1, 0, none⟩), .pointer (some ⟨b2, 0, none⟩)] ∧ ps = [pt b1 (.cells p.cells 90 (0, 0)), pt b2 (.cells #[.int .u8 lv] 5 (0, 0))]) := by
  refine Ct.enter Try.func91 rfl (Nat.le_of_ble_eq_true rfl) ?_
  intro oo w R hS
  change RC _ _ _ _ _ _ [(0, _), (1, _)] _
  refine RC.seq ?_
  refine RC.region rfl ?_
  refine RL.e (Ef.box hS rfl) ?_
  rintro _ w ⟨b2, rfl, hS⟩
  try simp (disch := omega) only [List.set_cons_zero, List.set_cons_succ, cells_int, cells_bool, cells_ptr, cells_slice, cells_func, cells_agg, cells_map, cells_int', cells_bool', cells_ptr', cells_slice', cells_agg', cells_map', cells_func', Nat.zero_add, wr, List.setIfInBounds_toArray] at hS
  refine RL.e (Ef.box hS rfl) ?_
  rintro _ w ⟨b3, rfl, hS⟩
  try simp (disch := omega) only [cells_int'] at hS
  refine RL.q (Qt.as rfl) ?_
  refine RL.nil ?_
  refine RE.sqN ?_
  refine RC.seq ?_
  refine RC.region rfl ?_
  refine RL.q (Qt.mkf2 rfl rfl) ?_
  refine RL.q (Qt.as rfl) ?_
  refine RL.nil ?_
  refine RE.sqN ?_
  refine RC.ret ?_
  exact RE.retB rfl ⟨b2, b3, rfl, rfl⟩ (hS.pick [1, 0, 2] (by decide) rfl)

set_option maxHeartbeats 1000000 in
theorem bqAt1 (b n : Nat) (l : List RItem) (lv : Int) (hlv : 0 ≤ lv ∧ lv ≤ 255) (b1 b2 : Nat) : It Try.prog 104 #[.pointer (some ⟨b1, 0, none⟩), .pointer (some ⟨b2, 0, none⟩)]
    [pt b1 (.cells #[.pointer (some ⟨b, 0, none⟩)] 90 (0, 0)), pt b2 (.cells #[.int .u8 lv] 5 (0, 0)), qO (.pointer (some ⟨b, 0, none⟩)) n l] ((rIds l lv).map fun i => #[.int .i64 i]) := by
  refine It.enter Try.func104 rfl (Nat.le_of_ble_eq_true rfl) ?_
  intro oo lY J X w hY hS
  change RC _ _ _ _ _ _ [(0, _), (1, _), (2, _)] _
  refine RC.seq ?_
  refine RC.seq ?_
  refine RC.region rfl ?_
  refine RL.q (Qt.ld rfl (by exact hS.at 0 rfl) (by first  | rfl)) ?_
  refine RL.q (Qt.eqlN rfl rfl) ?_
  refine RL.nil ?_
  refine RE.sqN ?_
  have hS0 := hS
  obtain ⟨q, W, b', bl, cap, c, cl, hp, hq, hS⟩ := qO_open (hS.pick [2, 0, 1, 3] (by decide) rfl)
  cases hp
  refine RC.condF rfl (rfl) ?_
  refine RC.skip ?_
  refine RE.sqN ?_
  refine RC.seq ?_
  refine RC.drawn 7 [0, 1, 2, 3, 4, 5, 6] (Same _) (by kernel_rfl) (by kernel_rfl) Same.drew (fun hh => ?_)
  replace hS := hS.drew
  refine RH.q hh (Calm.sq Calm.body) rfl (by kernel_rfl) (Qt.ld rfl (by exact hS.at 2 rfl) (by rfl)) ?_
  refine RH.q hh (Calm.sq Calm.body) rfl (by kernel_rfl) (Qt.ld rfl (by exact hS.at 3 rfl) (by rfl)) ?_
  refine RH.q hh (Calm.sq Calm.body) rfl (by kernel_rfl) (Qt.nil rfl) ?_
  refine RH.q hh (Calm.sq Calm.body) rfl (by kernel_rfl) (Qt.fld rfl) ?_
  refine RH.q hh (Calm.sq Calm.body) rfl (by kernel_rfl) (Qt.ixA rfl rfl (by omega) (by omega)) ?_
  refine RH.q hh (Calm.sq Calm.body) rfl (by kernel_rfl) (Qt.ld rfl (by exact hS.at 0 rfl) (by exact hq.qc.first _ hlv.1 hlv.2)) ?_
  refine RH.q hh (Calm.sq Calm.body) rfl (by kernel_rfl) (Qt.as rfl) ?_
  refine RH.done hh (by kernel_rfl) ?_
  refine RL.nil ?_
  refine RE.sqN ?_
  refine RC.block ?_
  rw [(hq.ri.seg lv hlv.1 hlv.2).2.1]
  refine RC.loop (γ := Nat) (fun k E w' => E = [(4, .int .i64 (((rIds l lv).drop k).headD (-1))), (0, .func (.yield lY) #[] #[]), (1, .pointer (some ⟨b1, 0, none⟩)), (2, .pointer (some ⟨b2, 0, none⟩))] ∧ Sat oo w' [pt b1 (.cells #[.pointer (some ⟨b, 0, none⟩)] 90 (0, 0)), pt b2 (.cells #[.int .u8 lv] 5 (0, 0)), qO (.pointer (some ⟨b, 0, none⟩)) n l, J k] ∧ k ≤ (rIds l lv).length) (fun k => (rIds l lv).length - k) 0 _ (by (repeat (first | exact Sub.nil | refine Sub.cons rfl ?_))) ⟨rfl, hS0.drew, by omega⟩ ?_
  clear hS hS0 hq
  rintro k E w ⟨rfl, hS, hk⟩
  have hnn : ∀ a ∈ rIds l lv, 0 ≤ a ∧ a < n := by
    obtain ⟨_, _, _, _, _, _, _, _, hq, _⟩ := qO_open (hS.pick [2, 0, 1, 3] (by decide) rfl)
    exact fun a ha => hq.ri.ids_nonneg ha
  refine RC.seq ?_
  refine RC.seq ?_
  refine RC.region rfl ?_
  refine RL.q (Qt.mv rfl) ?_
  refine RL.q (Qt.neq rfl rfl) ?_
  refine RL.q (Qt.mv rfl) ?_
  by_cases hlt : k < (rIds l lv).length
  · have hd : (rIds l lv).drop k = (rIds l lv)[k] :: (rIds l lv).drop (k + 1) := List.drop_eq_getElem_cons hlt
    have hid := hnn _ (List.getElem_mem hlt)
    rw [hd, List.headD_cons]
    have hne : decide ((rIds l lv)[k] ≠ -1) = true := by simp; omega
    have hyk := hY k (by simpa using hlt) w hS
    rw [List.getElem_map] at hyk
    refine RL.q (Qt.mv rfl) ?_ (Runs.guard rfl rfl rfl (hne))
    refine RL.q (Qt.mv rfl) ?_ (Runs.guard rfl rfl rfl (hne))
    refine RL.e (Ef.yield rfl rfl hyk) ?_ (Runs.guard rfl rfl rfl hne)
    rintro v18 w hv
    rcases hv with ⟨rfl, hS⟩ | ⟨rfl, hS⟩
    · skip
      refine RL.q ((by exact Qt.pickT rfl (by assumption) rfl)) ?_
      refine RL.nil ?_
      refine RE.sqN ?_
      have hS0 := hS
      obtain ⟨q, W, b', bl, cap, c, cl, hp, hq, hS⟩ := qO_open (hS.pick [2, 0, 1, 3] (by decide) rfl)
      cases hp
      refine RC.condT rfl (rfl) ?_
      refine RC.skip ?_
      refine RE.sqN ?_
      refine RC.seq ?_
      refine RC.block ?_
      refine RC.skip ?_
      refine RE.bkN ?_
      refine RE.sqN ?_
      refine RC.region rfl ?_
      refine RL.q (Qt.ld rfl (by exact hS.at 2 rfl) (by rfl)) ?_
      refine RL.q (Qt.nil rfl) ?_
      refine RL.q (Qt.fld rfl) ?_
      refine RL.q (Qt.ld rfl (by exact hS.at 0 rfl) (by exact hq.qc.links)) ?_
      refine RL.q (Qt.mv rfl) ?_
      refine RL.q (Qt.ixS rfl rfl (by omega) (by omega)) ?_
      refine RL.q (Qt.fld rfl) ?_
      refine RL.q (Qt.ld rfl (by exact hS.at 1 rfl) (by exact hq.la.behind _ (by omega) (by omega))) ?_
      refine RL.q (Qt.as rfl) ?_
      refine RL.nil ?_
      rw [Seg.behindAt (hq.ri.seg lv hlv.1 hlv.2).1 k hlt]
      apply RE.lpN (k + 1)
      case hI => exact ⟨rfl, hS0, hlt⟩
      case hs => (repeat (first | exact Sub.nil | refine Sub.cons rfl ?_))
      case hm =>
        show (rIds l lv).length - (k + 1) < (rIds l lv).length - k
        omega
    · skip
      refine RL.q ((by exact Qt.pickT rfl (by assumption) rfl)) ?_
      refine RL.nil ?_
      refine RE.sqN ?_
      refine RC.condF rfl (rfl) ?_
      refine RC.exit ?_
      refine RE.sqX ?_
      refine RE.lpX ?_
      refine RE.bkX ?_
      exact RE.endI rfl (.inr hS)
  · have hd : (rIds l lv).drop k = [] := List.drop_eq_nil_of_le (by omega)
    have hkn : k = ((rIds l lv).map fun i => #[Value.int .i64 i]).length := by simp; omega
    rw [hd, List.headD_nil]
    refine RL.s (Skips.guard rfl rfl rfl (rfl)) ?_
    refine RL.s (Skips.guard rfl rfl rfl (rfl)) ?_
    refine RL.s (Skips.guard rfl rfl rfl (rfl)) ?_
    refine RL.q ((by exact Qt.pickF rfl rfl rfl)) ?_
    refine RL.nil ?_
    refine RE.sqN ?_
    refine RC.condF rfl (rfl) ?_
    refine RC.exit ?_
    refine RE.sqX ?_
    refine RE.lpX ?_
    refine RE.bkX ?_
    rw [hkn] at hS
    exact RE.endI rfl (.inl hS)

/-- The slice that a loop fills, in its box. -/
def outP (b : Nat) (T : Nat) (l : List Int) : HP := fun F => ∃ v, Star [pt b (.cells #[v] T (0, 0)), ownI v l] F
theorem outP_open {w : World} {L : List HP} {b T : Nat} {l : List Int} (h : Sat oo w (outP b T l :: L)) : ∃ sp cap, Sat oo w (pt b (.cells #[.slice sp l.length cap] T (0, 0)) :: ownI (.slice sp l.length cap) l :: L) := by
  obtain ⟨v, h⟩ := h.ex 0 rfl (q := fun v F => Star [pt b (.cells #[v] T (0, 0)), ownI v l] F) (fun F h => h)
  have h1 := h.unstar
  obtain ⟨sp, cap, rfl⟩ := h1.ownForm 1 rfl
  exact ⟨sp, cap, h1⟩
theorem outP_shut {w : World} {L : List HP} {b T : Nat} {l : List Int} {v : Value} (h : Sat oo w (pt b (.cells #[v] T (0, 0)) :: ownI v l :: L)) : Sat oo w (outP b T l :: L) := by
  have h1 := Sat.star (B := [pt b (.cells #[v] T (0, 0)), ownI v l]) (L := L) h
  exact h1.imp 0 rfl (fun F hF => ⟨v, hF⟩)

set_option maxHeartbeats 1000000 in
theorem bqList (b n : Nat) (l : List RItem) (lv : Int) (hlv : 0 ≤ lv ∧ lv ≤ 255) (hlen : (rIds l lv).length ≤ 1000000) : Ct Try.prog 72 #[.pointer (some ⟨b, 0, none⟩), .int .u8 lv] [qO (.pointer (some ⟨b, 0, none⟩)) n l] (fun v ps => ps = [ownI v (rIds l lv), qO (.pointer (some ⟨b, 0, none⟩)) n l]) := by
  refine Ct.enter Try.func72 rfl (Nat.le_of_ble_eq_true rfl) ?_
  intro oo w R hS
  change RC _ _ _ _ _ _ [(0, _), (1, _)] _
  refine RC.seq ?_
  refine RC.region rfl ?_
  refine RL.q (Qt.as rfl) ?_
  refine RL.nil ?_
  refine RE.sqN ?_
  refine RC.seq ?_
  refine RC.region rfl ?_
  refine RL.e (Ef.alloc hS) ?_
  rintro _ w ⟨b5, rfl, hS⟩
  try simp (disch := omega) only [cells_slice'] at hS
  refine RL.nil ?_
  refine RE.sqN ?_
  refine RC.seq ?_
  refine RC.seq ?_
  refine RC.region rfl ?_
  refine RL.q (Qt.mv rfl) ?_
  refine RL.q (Qt.mv rfl) ?_
  refine RL.e (Ef.call hS (bqAt (.pointer (some ⟨b, 0, none⟩)) lv) rfl rfl Try.call91 [] [0, 1, 2] (by decide) rfl rfl) ?_
  rintro v9 w ⟨ps, ⟨b1, b2, rfl, rfl⟩, hS⟩
  refine RL.nil ?_
  refine RE.sqN ?_
  refine RC.block ?_
  have hS := outP_shut (l := []) ((hS.nilOwn (T := 3) (sz := 1)).pick [3, 0, 1, 2, 4, 5] (by decide) rfl)
  refine RC.rangeFn hS (bqAt1 b n l lv hlv b1 b2) rfl Try.call104 [1, 2, 3] [0, 4] (by decide) rfl rfl (by simp) (by decide) (fun k => [outP b5 53 ((rIds l lv).take k), R]) (by simp) (fun _ _ => False) ?_ ?_ (fun _ _ _ _ h => h.elim)
  · intro k hk l' b' r w hr hS
    have hlt : k < (rIds l lv).length := by simpa using hk
    have htk : (rIds l lv).take (k + 1) = (rIds l lv).take k ++ [(rIds l lv)[k]] := List.take_succ_eq_append_getElem hlt
    rw [List.getElem_map]
    change RC _ _ _ _ _ _ ((10, .int .i64 (rIds l lv)[k]) :: _) _
    obtain ⟨sp, cp, hS⟩ := outP_open (hS.pick [3, 0, 1, 2, 4, 5, 6] (by decide) rfl)
    have hkl : ((rIds l lv).take k).length = k := by simp; omega
    refine RC.region rfl ?_
    refine RL.q (Qt.as rfl) ?_
    refine RL.nil ?_
    refine RE.begin (k := 7) hS rfl hr.1 (fun w hS => ?_)
    simp only [List.set_cons_zero, List.set_cons_succ] at hS
    refine RC.block ?_
    refine RC.region rfl ?_
    refine RL.q (Qt.ld rfl (by exact hS.at 0 rfl) (by first  | rfl)) ?_
    refine RL.q (Qt.mv rfl) ?_
    refine RL.e (Ef.bsl1 hS rfl) ?_
    rintro _ w ⟨b13, rfl, hS⟩
    try simp (disch := omega) only [cells_int'] at hS
    refine RL.e (Ef.app (k := 2) hS rfl rfl rfl (Src.pt (hS.get 0 rfl) (by exact Nat.le_of_ble_eq_true rfl)) (by omega) (by rfl)) ?_
    intro s14 w hS
    simp only [List.set_cons_zero, List.set_cons_succ, List.drop_zero] at hS
    (obtain ⟨sp14, cp14, rfl⟩ := hS.ownForm 2 rfl)
    refine RL.e0 (Ef.st hS 1 rfl rfl rfl (by rfl) (by rfl) (by exact Nat.le_of_ble_eq_true rfl)) ?_
    intro _ w hS
    simp (disch := omega) only [List.set_cons_zero, List.set_cons_succ, cells_slice', wr, List.setIfInBounds_toArray] at hS
    refine RL.nil ?_
    refine RE.bkN ?_
    refine RE.rdN hr ?_
    have e1 : ((rIds l lv).take (k + 1)).length = ((rIds l lv).take k).length + 1 := by rw [htk, List.length_append]; rfl
    have e2 : ints ((rIds l lv).take (k + 1)) = ints ((rIds l lv).take k) ++ [.int .i64 (rIds l lv)[k]] := by rw [htk, ints, List.map_append]; rfl
    have hS := outP_shut (l := (rIds l lv).take (k + 1)) (b := b5) (T := 53) (v := .slice sp14 (((rIds l lv).take k).length + 1) cp14) (by unfold ownI; rw [e1, e2]; exact hS.pick [1, 2, 3, 4, 5, 6, 7, 8] (by decide) rfl)
    exact hS.pick [1, 2, 3, 0, 4, 5, 6] (by decide) rfl
  · intro b' w hS
    rw [List.length_map, List.take_length] at hS
    obtain ⟨sp, cp, hS⟩ := outP_open (hS.pick [3, 2, 4, 5] (by decide) rfl)
    refine RE.bkN ?_
    refine RE.sqN ?_
    refine RC.seq ?_
    refine RC.region rfl ?_
    refine RL.q (Qt.ld rfl (by exact hS.at 0 rfl) (by first  | rfl)) ?_
    refine RL.q (Qt.as rfl) ?_
    refine RL.nil ?_
    refine RE.sqN ?_
    refine RC.ret ?_
    exact RE.retM hS (k := 4) rfl rfl (ps := [ownI _ (rIds l lv), qO _ n l]) rfl [1, 2, 3] (by decide) rfl
end Go.Proofs

/- The heap of deadlines in memory: its cells; what ahead, may, meld, loose, cut do. -/
namespace Go.Proofs
open Go Go.Gx
variable {oo : World}

def prow (f : PH) (i : Int) : List Value := [.int .u64 (f.dl i), .int .u64 (f.sq i), .int .i64 (f.child i), .int .i64 (f.next i), .int .i64 (f.prev i), .bool (f.there i)]
abbrev hC (bl n cap : Nat) (root many : Int) : Obj := .cells #[.slice (some ⟨bl, 0, none⟩) n cap, .int .i64 root, .int .i64 many] 121 (0, 0)
abbrev hT (bl n : Nat) (f : PH) : HP := tabP bl 128 6 n (prow f)
theorem prow_wide (f : PH) (i : Int) : (prow f i).length = 6 := rfl

def hO (p : Value) (n : Nat) (l : List PItem) : HP := fun F => ∃ x : (PH × Int × Int × BT) × (Nat × Nat × Nat), (p = .pointer (some ⟨x.2.1, 0, none⟩) ∧ HI n l x.1.1 x.1.2.1 x.1.2.2.1 x.1.2.2.2 ∧ 1 ≤ n ∧ n ≤ 1024) ∧ Star [pt x.2.1 (hC x.2.2.1 n x.2.2.2 x.1.2.1 x.1.2.2.1), hT x.2.2.1 n x.1.1] F
theorem hO_open {w : World} {L : List HP} {p : Value} {n : Nat} {l : List PItem} (h : Sat oo w (hO p n l :: L)) :
    ∃ f root many t b bl cap, p = .pointer (some ⟨b, 0, none⟩) ∧ HI n l f root many t ∧ 1 ≤ n ∧ n ≤ 1024 ∧ Sat oo w (pt b (hC bl n cap root many) :: hT bl n f :: L) := by
  obtain ⟨⟨⟨f, root, many, t⟩, b, bl, cap⟩, h⟩ := h.ex (α := (PH × Int × Int × BT) × (Nat × Nat × Nat)) 0 rfl (q := fun x F => (p = .pointer (some ⟨x.2.1, 0, none⟩) ∧ HI n l x.1.1 x.1.2.1 x.1.2.2.1 x.1.2.2.2 ∧ 1 ≤ n ∧ n ≤ 1024) ∧ Star [pt x.2.1 (hC x.2.2.1 n x.2.2.2 x.1.2.1 x.1.2.2.1), hT x.2.2.1 n x.1.1] F) (fun F ⟨x, h⟩ => ⟨x, h⟩)
  obtain ⟨h1, h2, h3, h4⟩ := h.fact 0 rfl (fun F hF => hF.1)
  exact ⟨f, root, many, t, b, bl, cap, h1, h2, h3, h4, (h.imp 0 rfl (fun F hF => hF.2)).unstar⟩
theorem hO_shut {w : World} {L : List HP} {n b bl cap : Nat} {l : List PItem} {f : PH} {root many : Int} {t : BT} (hi : HI n l f root many t) (h1 : 1 ≤ n) (h2 : n ≤ 1024)
    (h : Sat oo w (pt b (hC bl n cap root many) :: hT bl n f :: L)) : Sat oo w (hO (.pointer (some ⟨b, 0, none⟩)) n l :: L) := by
  have h3 := Sat.star (B := [pt b (hC bl n cap root many), hT bl n f]) (L := L) h
  exact h3.imp 0 rfl (fun F hF => ⟨⟨⟨f, root, many, t⟩, b, bl, cap⟩, ⟨rfl, hi, h1, h2⟩, hF⟩)
theorem hO_pok {w : World} {L : List HP} {p : Value} {n : Nat} {l : List PItem} (h : Sat oo w (hO p n l :: L)) : POk n l ∧ 1 ≤ n ∧ n ≤ 1024 := by
  obtain ⟨f, root, many, t, b, bl, cap, _, h2, h3, h4, _⟩ := hO_open h
  exact ⟨h2.pok, h3, h4⟩

section
variable {n : Nat} {f : PH} {c : Array Value} {i : Int}
theorem pr2 (hc : Tab 6 n (prow f) c) (h0 : 0 ≤ i) (h1 : i < n) : c.toList[0 + i.toNat * 6 + 2]? = some (.int .i64 (f.child i)) := hc.get h0 h1 2 rfl
theorem pr3 (hc : Tab 6 n (prow f) c) (h0 : 0 ≤ i) (h1 : i < n) : c.toList[0 + i.toNat * 6 + 3]? = some (.int .i64 (f.next i)) := hc.get h0 h1 3 rfl
theorem pr4 (hc : Tab 6 n (prow f) c) (h0 : 0 ≤ i) (h1 : i < n) : c.toList[0 + i.toNat * 6 + 4]? = some (.int .i64 (f.prev i)) := hc.get h0 h1 4 rfl
theorem pr5 (hc : Tab 6 n (prow f) c) (h0 : 0 ≤ i) (h1 : i < n) : c.toList[0 + i.toNat * 6 + 5]? = some (.bool (f.there i)) := hc.get h0 h1 5 rfl
theorem pr0 (hc : Tab 6 n (prow f) c) (h0 : 0 ≤ i) (h1 : i < n) : c.toList[0 + i.toNat * 6]? = some (.int .u64 (f.dl i)) := hc.get h0 h1 0 rfl
theorem pr1 (hc : Tab 6 n (prow f) c) (h0 : 0 ≤ i) (h1 : i < n) : c.toList[0 + i.toNat * 6 + 1]? = some (.int .u64 (f.sq i)) := hc.get h0 h1 1 rfl
theorem prR (hc : Tab 6 n (prow f) c) (h0 : 0 ≤ i) (h1 : i < n) : c.extract (0 + i.toNat * 6) (0 + i.toNat * 6 + 6) = #[.int .u64 (f.dl i), .int .u64 (f.sq i), .int .i64 (f.child i), .int .i64 (f.next i), .int .i64 (f.prev i), .bool (f.there i)] := hc.row h0 h1
theorem ps2 (hc : Tab 6 n (prow f) c) (h0 : 0 ≤ i) (h1 : i < n) (v : Int) : Tab 6 n (prow { f with child := upd f.child i v }) (wr c (i.toNat * 6 + 2) [.int .i64 v]) :=
  hc.set h0 h1 2 (by decide) rfl (by simp [prow, upd]) fun u hu => by simp [prow, upd, hu]
theorem ps3 (hc : Tab 6 n (prow f) c) (h0 : 0 ≤ i) (h1 : i < n) (v : Int) : Tab 6 n (prow { f with next := upd f.next i v }) (wr c (i.toNat * 6 + 3) [.int .i64 v]) :=
  hc.set h0 h1 3 (by decide) rfl (by simp [prow, upd]) fun u hu => by simp [prow, upd, hu]
theorem ps4 (hc : Tab 6 n (prow f) c) (h0 : 0 ≤ i) (h1 : i < n) (v : Int) : Tab 6 n (prow { f with prev := upd f.prev i v }) (wr c (i.toNat * 6 + 4) [.int .i64 v]) :=
  hc.set h0 h1 4 (by decide) rfl (by simp [prow, upd]) fun u hu => by simp [prow, upd, hu]
theorem psZ (hc : Tab 6 n (prow f) c) (h0 : 0 ≤ i) (h1 : i < n) : Tab 6 n (prow (zeroF f i)) (wr c (i.toNat * 6) [.int .u64 0, .int .u64 0, .int .i64 0, .int .i64 0, .int .i64 0, .bool false]) :=
  hc.setRow h0 h1 rfl rfl (by simp [prow, zeroF, upd]) fun u hu => by simp [prow, zeroF, upd, hu]
theorem psI (hc : Tab 6 n (prow f) c) {x : PItem} (h0 : 0 ≤ x.id) (h1 : x.id < n) : Tab 6 n (prow (insF f x)) (wr c (x.id.toNat * 6) [.int .u64 x.dl, .int .u64 x.sq, .int .i64 (-1), .int .i64 (-1), .int .i64 (-1), .bool true]) :=
  hc.setRow h0 h1 rfl rfl (by simp [prow, insF, upd]) fun u hu => by simp [prow, insF, upd, hu]
end

set_option maxHeartbeats 1000000 in
theorem phAhead (b bl n cap : Nat) (f : PH) (root many x y : Int) (hx : 0 ≤ x ∧ x < n) (hy : 0 ≤ y ∧ y < n) : Ct Try.prog 105 #[.pointer (some ⟨b, 0, none⟩), .int .i64 x, .int .i64 y] [pt b (hC bl n cap root many), hT bl n f]
    (fun v ps => v = .bool (aheadF f x y) ∧ ps = [pt b (hC bl n cap root many), hT bl n f]) := by
  refine Ct.enter Try.func105 rfl (Nat.le_of_ble_eq_true rfl) ?_
  intro oo w R hS
  change RC _ _ _ _ _ _ [(0, _), (1, _), (2, _)] _
  obtain ⟨c, hc, hS⟩ := hS.tabOpen 1 rfl
  try simp only [List.set_cons_zero, List.set_cons_succ] at hS
  have hsz := hc.size
  have hrx := prR hc hx.1 hx.2
  have hry := prR hc hy.1 hy.2
  refine RC.seq ?_
  refine RC.region rfl ?_
  refine RL.q (Qt.as rfl) ?_
  refine RL.nil ?_
  refine RE.sqN ?_
  refine RC.seq ?_
  refine RC.drawn 18 [0, 1, 2, 3, 4, 5, 6, 7, 8, 9, 10, 11, 12, 13, 14, 15, 16, 17] (fun w' => w'.heap[b]? = some (hC bl n cap root many) ∧ w'.heap[bl]? = some (.cells c 128 (0, 0))) (by kernel_rfl) (by kernel_rfl) ⟨hS.drew.get 0 rfl, hS.drew.get 1 rfl⟩ (fun hh => ?_)
  replace hS := hS.drew
  refine RH.q hh (Calm.sq Calm.body) rfl (by kernel_rfl) (Qt.mv rfl) ?_
  refine RH.q hh (Calm.sq Calm.body) rfl (by kernel_rfl) (Qt.nil rfl) ?_
  refine RH.q hh (Calm.sq Calm.body) rfl (by kernel_rfl) (Qt.fld rfl) ?_
  refine RH.q hh (Calm.sq Calm.body) rfl (by kernel_rfl) (Qt.ld rfl (by exact fun _ h => h.1) (by first  | rfl)) ?_
  refine RH.q hh (Calm.sq Calm.body) rfl (by kernel_rfl) (Qt.mv rfl) ?_
  refine RH.q hh (Calm.sq Calm.body) rfl (by kernel_rfl) (Qt.ixS rfl rfl (by omega) (by omega)) ?_
  refine RH.q hh (Calm.sq Calm.body) rfl (by kernel_rfl) (Qt.ldA rfl (by exact fun _ h => h.2) (by exact hrx) (by omega)) ?_
  refine RH.q hh (Calm.sq Calm.body) rfl (by kernel_rfl) (Qt.mv rfl) ?_
  refine RH.q hh (Calm.sq Calm.body) rfl (by kernel_rfl) (Qt.nil rfl) ?_
  refine RH.q hh (Calm.sq Calm.body) rfl (by kernel_rfl) (Qt.fld rfl) ?_
  refine RH.q hh (Calm.sq Calm.body) rfl (by kernel_rfl) (Qt.ld rfl (by exact fun _ h => h.1) (by first  | rfl)) ?_
  refine RH.q hh (Calm.sq Calm.body) rfl (by kernel_rfl) (Qt.mv rfl) ?_
  refine RH.q hh (Calm.sq Calm.body) rfl (by kernel_rfl) (Qt.ixS rfl rfl (by omega) (by omega)) ?_
  refine RH.q hh (Calm.sq Calm.body) rfl (by kernel_rfl) (Qt.ldA rfl (by exact fun _ h => h.2) (by exact hry) (by omega)) ?_
  refine RH.alloc2 hh rfl rfl (by kernel_rfl) rfl hS (fun _ _ _ hS => ⟨hS.get 1 rfl, hS.get 2 rfl⟩) ?_
  intro b7 b8 w hS
  try simp (disch := omega) only [cells_agg'] at hS
  refine ⟨⟨hS.get 2 rfl, hS.get 3 rfl⟩, ?_⟩
  refine RH.e0 hh rfl (by kernel_rfl) (Ef.st hS 1 rfl rfl rfl (by rfl) (by rfl) (by exact Nat.le_of_ble_eq_true rfl)) ?_
  intro _ w hS
  simp (disch := omega) only [List.set_cons_zero, List.set_cons_succ, cells_agg', Nat.zero_add, wr, List.setIfInBounds_toArray] at hS
  refine ⟨⟨hS.get 2 rfl, hS.get 3 rfl⟩, ?_⟩
  refine RH.e0 hh rfl (by kernel_rfl) (Ef.st hS 0 rfl rfl rfl (by rfl) (by rfl) (by exact Nat.le_of_ble_eq_true rfl)) ?_
  intro _ w hS
  simp (disch := omega) only [List.set_cons_zero, List.set_cons_succ, cells_agg', Nat.zero_add, wr, List.setIfInBounds_toArray] at hS
  refine ⟨⟨hS.get 2 rfl, hS.get 3 rfl⟩, ?_⟩
  refine RH.done hh (by kernel_rfl) ?_
  refine RL.nil ?_
  refine RE.sqN ?_
  refine RC.seq ?_
  refine RC.block ?_
  refine RC.seq ?_
  refine RC.region rfl ?_
  refine RL.q (Qt.fld rfl) ?_
  refine RL.q (Qt.fld rfl) ?_
  refine RL.q (Qt.ld rfl (by exact hS.at 1 rfl) (by first  | rfl)) ?_
  refine RL.q (Qt.fld rfl) ?_
  refine RL.q (Qt.fld rfl) ?_
  refine RL.q (Qt.ld rfl (by exact hS.at 0 rfl) (by first  | rfl)) ?_
  refine RL.q (Qt.neq rfl rfl) ?_
  refine RL.q (Qt.as rfl) ?_
  refine RL.nil ?_
  refine RE.sqN ?_
  refine RC.cond rfl (fun h => ?_) (fun h => ?_)
  · refine RC.seq ?_
    refine RC.region rfl ?_
    refine RL.q (Qt.fld rfl) ?_
    refine RL.q (Qt.fld rfl) ?_
    refine RL.q (Qt.ld rfl (by exact hS.at 1 rfl) (by first  | rfl)) ?_
    refine RL.q (Qt.fld rfl) ?_
    refine RL.q (Qt.fld rfl) ?_
    refine RL.q (Qt.ld rfl (by exact hS.at 0 rfl) (by first  | rfl)) ?_
    refine RL.q (Qt.lss rfl rfl) ?_
    refine RL.q (Qt.as rfl) ?_
    refine RL.nil ?_
    refine RE.sqN ?_
    refine RC.ret ?_
    refine RE.bkR ?_
    refine RE.sqR ?_
    have h : f.dl x ≠ f.dl y := of_decide_eq_true h
    refine RE.retB rfl ⟨?_, rfl⟩ ((hS.pick [2, 3, 4] (by decide) rfl).tabShut 1 rfl hc)
    simp only [oneOf, Value.bool.injEq, aheadF]
    exact decide_eq_decide.2 (by simp only [PItem.lt, PH.it]; omega)
  · skip
    have h : f.dl x = f.dl y := Classical.not_not.1 (of_decide_eq_false h)
    refine RC.seq ?_
    refine RC.region rfl ?_
    refine RL.q (Qt.fld rfl) ?_
    refine RL.q (Qt.fld rfl) ?_
    refine RL.q (Qt.ld rfl (by exact hS.at 1 rfl) (by first  | rfl)) ?_
    refine RL.q (Qt.fld rfl) ?_
    refine RL.q (Qt.fld rfl) ?_
    refine RL.q (Qt.ld rfl (by exact hS.at 0 rfl) (by first  | rfl)) ?_
    refine RL.q (Qt.neq rfl rfl) ?_
    refine RL.q (Qt.as rfl) ?_
    refine RL.nil ?_
    refine RE.sqN ?_
    refine RC.cond rfl (fun h2 => ?_) (fun h2 => ?_)
    · refine RC.seq ?_
      refine RC.region rfl ?_
      refine RL.q (Qt.fld rfl) ?_
      refine RL.q (Qt.fld rfl) ?_
      refine RL.q (Qt.ld rfl (by exact hS.at 1 rfl) (by first  | rfl)) ?_
      refine RL.q (Qt.fld rfl) ?_
      refine RL.q (Qt.fld rfl) ?_
      refine RL.q (Qt.ld rfl (by exact hS.at 0 rfl) (by first  | rfl)) ?_
      refine RL.q (Qt.lss rfl rfl) ?_
      refine RL.q (Qt.as rfl) ?_
      refine RL.nil ?_
      refine RE.sqN ?_
      refine RC.ret ?_
      refine RE.bkR ?_
      refine RE.sqR ?_
      have h2 : f.sq x ≠ f.sq y := of_decide_eq_true h2
      refine RE.retB rfl ⟨?_, rfl⟩ ((hS.pick [2, 3, 4] (by decide) rfl).tabShut 1 rfl hc)
      simp only [oneOf, Value.bool.injEq, aheadF]
      exact decide_eq_decide.2 (by simp only [PItem.lt, PH.it]; omega)
    · refine RC.skip ?_
      refine RE.bkN ?_
      refine RE.sqN ?_
      refine RC.seq ?_
      refine RC.region rfl ?_
      refine RL.q (Qt.mv rfl) ?_
      refine RL.q (Qt.mv rfl) ?_
      refine RL.q (Qt.lss rfl rfl) ?_
      refine RL.q (Qt.as rfl) ?_
      refine RL.nil ?_
      refine RE.sqN ?_
      refine RC.ret ?_
      have h2 : f.sq x = f.sq y := Classical.not_not.1 (of_decide_eq_false h2)
      refine RE.retB rfl ⟨?_, rfl⟩ ((hS.pick [2, 3, 4] (by decide) rfl).tabShut 1 rfl hc)
      simp only [oneOf, Value.bool.injEq, aheadF]
      exact decide_eq_decide.2 (by simp only [PItem.lt, PH.it]; omega)

set_option maxHeartbeats 1000000 in
theorem phMay (p : Value) (n : Nat) (l : List PItem) (id : Int) (t : Bool) : Ct Try.prog 87 #[p, .int .i64 id, .bool t] [hO p n l] (fun v ps => v = .int .i64 (pErr l n id t) ∧ ps = [hO p n l]) := by
  refine Ct.enter Try.func87 rfl (Nat.le_of_ble_eq_true rfl) ?_
  intro oo w R hS
  change RC _ _ _ _ _ _ [(0, _), (1, _), (2, _)] _
  obtain ⟨f, root, many, tr, b, bl, cap, rfl, hi, hn1, hn2, hS⟩ := hO_open hS
  have hS0 := hS
  obtain ⟨c, hc, hS⟩ := hS.tabOpen 1 rfl
  try simp only [List.set_cons_zero, List.set_cons_succ] at hS
  have hsz := hc.size
  refine RC.seq ?_
  refine RC.region rfl ?_
  refine RL.q (Qt.as rfl) ?_
  refine RL.nil ?_
  refine RE.sqN ?_
  refine RC.seq ?_
  refine RC.block ?_
  refine RC.seq ?_
  refine RC.region rfl ?_
  refine RL.q (Qt.mv rfl) ?_
  refine RL.q (Qt.eqlN rfl rfl) ?_
  refine RL.q (Qt.as rfl) ?_
  refine RL.nil ?_
  refine RE.sqN ?_
  refine RC.condF rfl (rfl) ?_
  refine RC.seq ?_
  refine RC.region rfl ?_
  refine RL.q (Qt.mv rfl) ?_
  refine RL.q (Qt.lss rfl rfl) ?_
  refine RL.q (Qt.mv rfl) ?_
  refine RLG.start 13 false rfl ?_
  refine RLG.q rfl rfl rfl (fun _ => Qt.mv rfl) ?_
  refine RLG.q rfl rfl rfl (fun _ => Qt.mv rfl) ?_
  refine RLG.q rfl rfl rfl (fun _ => Qt.nil rfl) ?_
  refine RLG.q rfl rfl rfl (fun _ => Qt.fld rfl) ?_
  refine RLG.q rfl rfl rfl (fun hg => by (try simp only [decide_eq_false_iff_not] at hg); exact Qt.ld rfl (by exact hS.at 0 rfl) (by rfl)) ?_
  refine RLG.q rfl rfl rfl (fun _ => Qt.lenS rfl) ?_
  refine RLG.q rfl rfl rfl (fun hg => by (try simp only [decide_eq_false_iff_not] at hg); exact Qt.geq rfl rfl) ?_
  refine RLG.or rfl rfl ?_
  refine RL.q (Qt.as rfl) ?_
  refine RL.nil ?_
  refine RE.sqN ?_
  refine RC.cond rfl (fun h => ?_) (fun h => ?_)
  · refine RC.seq ?_
    refine RC.region rfl ?_
    refine RL.q (Qt.as rfl) ?_
    refine RL.nil ?_
    refine RE.sqN ?_
    refine RC.ret ?_
    refine RE.bkR ?_
    refine RE.sqR ?_
    have h : id < 0 ∨ id ≥ n := by simpa using h
    exact RE.retB rfl ⟨by rw [pErr_range h]; rfl, rfl⟩ (hO_shut hi hn1 hn2 hS0)
  · skip
    have h : ¬ (id < 0 ∨ id ≥ n) := by simpa using h
    have ht := hi.there id (by omega) (by omega)
    refine RC.seq ?_
    refine RC.region rfl ?_
    refine RL.q (Qt.mv rfl) ?_
    refine RL.q (Qt.mv rfl) ?_
    refine RLG.start 24 true rfl ?_
    refine RLG.q rfl rfl rfl (fun _ => Qt.mv rfl) ?_
    refine RLG.q rfl rfl rfl (fun _ => Qt.nil rfl) ?_
    refine RLG.q rfl rfl rfl (fun _ => Qt.fld rfl) ?_
    refine RLG.q rfl rfl rfl (fun hg => by (try simp only [decide_eq_true_eq, decide_eq_false_iff_not, Bool.or_eq_false_iff, Bool.and_eq_true, Bool.not_eq_true, Bool.not_eq_false, Option.isSome_some, Option.isNone_some] at hg); exact Qt.ld rfl (by exact hS.at 0 rfl) (by rfl)) ?_
    refine RLG.q rfl rfl rfl (fun _ => Qt.mv rfl) ?_
    refine RLG.q rfl rfl rfl (fun hg => by (try simp only [decide_eq_true_eq, decide_eq_false_iff_not, Bool.or_eq_false_iff, Bool.and_eq_true, Bool.not_eq_true, Bool.not_eq_false, Option.isSome_some, Option.isNone_some] at hg); exact Qt.ixS rfl rfl (by omega) (by omega)) ?_
    refine RLG.q rfl rfl rfl (fun _ => Qt.fld rfl) ?_
    refine RLG.q rfl rfl rfl (fun hg => by (try simp only [decide_eq_true_eq, decide_eq_false_iff_not, Bool.or_eq_false_iff, Bool.and_eq_true, Bool.not_eq_true, Bool.not_eq_false, Option.isSome_some, Option.isNone_some] at hg); exact Qt.ld rfl (by exact hS.at 1 rfl) (by exact pr5 hc (by omega) (by omega))) ?_
    refine RLG.q rfl rfl rfl (fun _ => Qt.not rfl) ?_
    refine RLG.and rfl rfl ?_
    refine RL.q (Qt.as rfl) ?_
    refine RL.nil ?_
    refine RE.sqN ?_
    refine RC.cond rfl (fun h2 => ?_) (fun h2 => ?_)
    · refine RC.seq ?_
      refine RC.region rfl ?_
      refine RL.q (Qt.as rfl) ?_
      refine RL.nil ?_
      refine RE.sqN ?_
      refine RC.ret ?_
      refine RE.bkR ?_
      refine RE.sqR ?_
      have h2 : t = true ∧ f.there id = false := by simpa using h2
      have h3 : id ∉ pIds l := by rw [← ht, h2.2]; simp
      obtain ⟨rfl, _⟩ := h2
      exact RE.retB rfl ⟨by rw [pErr_none h h3]; rfl, rfl⟩ (hO_shut hi hn1 hn2 hS0)
    · skip
      have h2 : ¬ (t = true ∧ f.there id = false) := by simpa using h2
      refine RC.seq ?_
      refine RC.region rfl ?_
      refine RL.q (Qt.mv rfl) ?_
      refine RL.q (Qt.not rfl) ?_
      refine RL.q (Qt.mv rfl) ?_
      refine RLG.start 38 true rfl ?_
      refine RLG.q rfl rfl rfl (fun _ => Qt.mv rfl) ?_
      refine RLG.q rfl rfl rfl (fun _ => Qt.nil rfl) ?_
      refine RLG.q rfl rfl rfl (fun _ => Qt.fld rfl) ?_
      refine RLG.q rfl rfl rfl (fun hg => by (try simp only [decide_eq_true_eq, decide_eq_false_iff_not, Bool.or_eq_false_iff, Bool.and_eq_true, Bool.not_eq_true, Bool.not_eq_false, Option.isSome_some, Option.isNone_some] at hg); exact Qt.ld rfl (by exact hS.at 0 rfl) (by rfl)) ?_
      refine RLG.q rfl rfl rfl (fun _ => Qt.mv rfl) ?_
      refine RLG.q rfl rfl rfl (fun hg => by (try simp only [decide_eq_true_eq, decide_eq_false_iff_not, Bool.or_eq_false_iff, Bool.and_eq_true, Bool.not_eq_true, Bool.not_eq_false, Option.isSome_some, Option.isNone_some] at hg); exact Qt.ixS rfl rfl (by omega) (by omega)) ?_
      refine RLG.q rfl rfl rfl (fun _ => Qt.fld rfl) ?_
      refine RLG.q rfl rfl rfl (fun hg => by (try simp only [decide_eq_true_eq, decide_eq_false_iff_not, Bool.or_eq_false_iff, Bool.and_eq_true, Bool.not_eq_true, Bool.not_eq_false, Option.isSome_some, Option.isNone_some] at hg); exact Qt.ld rfl (by exact hS.at 1 rfl) (by exact pr5 hc (by omega) (by omega))) ?_
      refine RLG.and rfl rfl ?_
      refine RL.q (Qt.as rfl) ?_
      refine RL.nil ?_
      refine RE.sqN ?_
      refine RC.cond rfl (fun h5 => ?_) (fun h5 => ?_)
      · refine RC.seq ?_
        refine RC.region rfl ?_
        refine RL.q (Qt.as rfl) ?_
        refine RL.nil ?_
        refine RE.sqN ?_
        refine RC.ret ?_
        refine RE.bkR ?_
        refine RE.sqR ?_
        have h5 : t = false ∧ f.there id = true := by simpa using h5
        have h6 : id ∈ pIds l := ht.1 h5.2
        obtain ⟨rfl, _⟩ := h5
        exact RE.retB rfl ⟨by rw [pErr_known h h6]; rfl, rfl⟩ (hO_shut hi hn1 hn2 hS0)
      · refine RC.skip ?_
        refine RE.bkN ?_
        refine RE.sqN ?_
        refine RC.seq ?_
        refine RC.region rfl ?_
        refine RL.q (Qt.as rfl) ?_
        refine RL.nil ?_
        refine RE.sqN ?_
        refine RC.ret ?_
        have h5 : ¬ (t = false ∧ f.there id = true) := by simpa using h5
        refine RE.retB rfl ⟨?_, rfl⟩ (hO_shut hi hn1 hn2 hS0)
        cases t with
        | true =>
          have : id ∈ pIds l := ht.1 (by simpa using h2)
          rw [pErr_ok1 h this]; rfl
        | false =>
          have : id ∉ pIds l := fun e => h5 ⟨rfl, ht.2 e⟩
          rw [pErr_ok0 h this]; rfl

set_option maxHeartbeats 4000000 in
theorem phMeld (b bl n cap : Nat) (f : PH) (root many x y : Int) (hb : Bd n f) (hx : -1 ≤ x ∧ x < n) (hy : -1 ≤ y ∧ y < n) : Ct Try.prog 100 #[.pointer (some ⟨b, 0, none⟩), .int .i64 x, .int .i64 y] [pt b (hC bl n cap root many), hT bl n f]
    (fun v ps => v = .int .i64 (meldF f x y).2 ∧ ps = [pt b (hC bl n cap root many), hT bl n (meldF f x y).1]) := by
  refine Ct.enter Try.func100 rfl (Nat.le_of_ble_eq_true rfl) ?_
  intro oo w R hS
  change RC _ _ _ _ _ _ [(0, _), (1, _), (2, _)] _
  refine RC.seq ?_
  refine RC.region rfl ?_
  refine RL.q (Qt.as rfl) ?_
  refine RL.nil ?_
  refine RE.sqN ?_
  refine RC.seq ?_
  refine RC.seq ?_
  refine RC.region rfl ?_
  refine RL.q (Qt.mv rfl) ?_
  refine RL.q (Qt.eql rfl rfl) ?_
  refine RL.q (Qt.mv rfl) ?_
  refine RLG.start 10 false rfl ?_
  refine RLG.q rfl rfl rfl (fun _ => Qt.mv rfl) ?_
  refine RLG.q rfl rfl rfl (fun hg => by (try simp only [decide_eq_false_iff_not] at hg); exact Qt.eql rfl rfl) ?_
  refine RLG.or rfl rfl ?_
  refine RL.nil ?_
  refine RE.sqN ?_
  refine RC.cond rfl (fun h => ?_) (fun h => ?_)
  · refine RC.seq ?_
    refine RC.region rfl ?_
    refine RL.q (Qt.mv rfl) ?_
    refine RL.q (Qt.mv rfl) ?_
    refine RL.q (Qt.max rfl rfl) ?_
    refine RL.q (Qt.as rfl) ?_
    refine RL.nil ?_
    refine RE.sqN ?_
    refine RC.ret ?_
    refine RE.sqR ?_
    have h : x = -1 ∨ y = -1 := by simpa using h
    have e : meldF f x y = (f, max x y) := by rw [meldF, if_pos h]
    rw [e]
    exact RE.retB rfl ⟨rfl, rfl⟩ hS
  · skip
    have h : ¬ (x = -1 ∨ y = -1) := by simpa using h
    refine RC.skip ?_
    refine RE.sqN ?_
    refine RC.seq ?_
    refine RC.seq ?_
    refine RC.region rfl ?_
    refine RL.q (Qt.mv rfl) ?_
    refine RL.q (Qt.mv rfl) ?_
    refine RL.q (Qt.mv rfl) ?_
    refine RL.e (Ef.call hS (phAhead b bl n cap f root many y x (by omega) (by omega)) rfl rfl Try.call105 [0, 1] [2] (by decide) rfl rfl) ?_
    rintro v20 w ⟨ps, ⟨rfl, rfl⟩, hS⟩
    refine RL.nil ?_
    refine RE.sqN ?_
    refine RC.cond rfl (fun h2 => ?_) (fun h2 => ?_)
    · skip
      have e : meldF f x y = (linkF f y x, y) := by rw [meldF, if_neg h, if_pos h2]
      rw [e]
      obtain ⟨c, hc, hS⟩ := hS.tabOpen 1 rfl
      try simp only [List.set_cons_zero, List.set_cons_succ] at hS
      have hsz := hc.size
      have hch := (hb y (by omega) (by omega)).1
      have hc1 := ps3 hc (i := x) (by omega) (by omega) (f.child y)
      have hc2 := ps4 hc1 (i := x) (by omega) (by omega) y
      refine RC.region rfl ?_
      refine RL.q (Qt.mv rfl) ?_
      refine RL.q (Qt.mv rfl) ?_
      refine RL.q (Qt.as rfl) ?_
      refine RL.q (Qt.as rfl) ?_
      refine RL.nil ?_
      refine RE.sqN ?_
      refine RC.seq ?_
      refine RC.region rfl ?_
      refine RL.q (Qt.mv rfl) ?_
      refine RL.q (Qt.nil rfl) ?_
      refine RL.q (Qt.fld rfl) ?_
      refine RL.q (Qt.ld rfl (by exact hS.at 0 rfl) (by rfl)) ?_
      refine RL.q (Qt.mv rfl) ?_
      refine RL.q (Qt.ixS rfl rfl (by omega) (by omega)) ?_
      refine RL.q (Qt.fld rfl) ?_
      refine RL.q (Qt.ld rfl (by exact hS.at 1 rfl) (by exact pr2 hc (by omega) (by omega))) ?_
      refine RL.q (Qt.as rfl) ?_
      refine RL.nil ?_
      refine RE.sqN ?_
      refine RC.seq ?_
      refine RC.drawn 18 [0, 1, 2, 3, 4, 5, 6, 7, 8, 9, 10, 11, 12, 13, 14, 15, 16, 17] (fun w' => w'.heap[b]? = some (hC bl n cap root many)) (by kernel_rfl) (by kernel_rfl) ((by exact hS.drew.get 0 rfl)) (fun hh => ?_)
      replace hS := hS.drew
      refine RH.q hh (Calm.sq Calm.body) rfl (by kernel_rfl) (Qt.mv rfl) ?_
      refine RH.q hh (Calm.sq Calm.body) rfl (by kernel_rfl) (Qt.nil rfl) ?_
      refine RH.q hh (Calm.sq Calm.body) rfl (by kernel_rfl) (Qt.fld rfl) ?_
      refine RH.q hh (Calm.sq Calm.body) rfl (by kernel_rfl) (Qt.ld rfl (fun _ h => h) (by rfl)) ?_
      refine RH.q hh (Calm.sq Calm.body) rfl (by kernel_rfl) (Qt.mv rfl) ?_
      refine RH.q hh (Calm.sq Calm.body) rfl (by kernel_rfl) (Qt.mv rfl) ?_
      refine RH.q hh (Calm.sq Calm.body) rfl (by kernel_rfl) (Qt.nil rfl) ?_
      refine RH.q hh (Calm.sq Calm.body) rfl (by kernel_rfl) (Qt.fld rfl) ?_
      refine RH.q hh (Calm.sq Calm.body) rfl (by kernel_rfl) (Qt.ld rfl (fun _ h => h) (by rfl)) ?_
      refine RH.q hh (Calm.sq Calm.body) rfl (by kernel_rfl) (Qt.mv rfl) ?_
      refine RH.q hh (Calm.sq Calm.body) rfl (by kernel_rfl) (Qt.mv rfl) ?_
      refine RH.q hh (Calm.sq Calm.body) rfl (by kernel_rfl) (Qt.mv rfl) ?_
      refine RH.q hh (Calm.sq Calm.body) rfl (by kernel_rfl) (Qt.ixS rfl rfl (by omega) (by omega)) ?_
      refine RH.q hh (Calm.sq Calm.body) rfl (by kernel_rfl) (Qt.fld rfl) ?_
      refine RH.e0 hh rfl (by kernel_rfl) (Ef.st hS 1 rfl rfl rfl (by rfl) (by rfl) (by omega)) ?_
      intro _ w hS
      simp (disch := omega) only [cells_int', Nat.zero_add] at hS
      refine ⟨(by exact hS.get 0 rfl), ?_⟩
      refine RH.q hh (Calm.sq Calm.body) rfl (by kernel_rfl) (Qt.ixS rfl rfl (by omega) (by omega)) ?_
      refine RH.q hh (Calm.sq Calm.body) rfl (by kernel_rfl) (Qt.fld rfl) ?_
      refine RH.e0 hh rfl (by kernel_rfl) (Ef.st hS 1 rfl rfl rfl (by rfl) (by rfl) (by (simp only [wr_size]; omega))) ?_
      intro _ w hS
      simp (disch := omega) only [cells_int', Nat.zero_add] at hS
      refine ⟨(by exact hS.get 0 rfl), ?_⟩
      refine RH.done hh (by kernel_rfl) ?_
      refine RL.nil ?_
      refine RE.sqN ?_
      refine RC.seq ?_
      refine RC.seq ?_
      refine RC.region rfl ?_
      refine RL.q (Qt.mv rfl) ?_
      refine RL.q (Qt.neq rfl rfl) ?_
      refine RL.nil ?_
      refine RE.sqN ?_
      refine RC.cond rfl (fun h3 => ?_) (fun h3 => ?_)
      · skip
        have h3 : f.child y ≠ -1 := of_decide_eq_true h3
        have hc3 := ps4 hc2 (i := f.child y) (by omega) (by omega) x
        have hc4 := ps2 hc3 (i := y) (by omega) (by omega) x
        refine RC.region rfl ?_
        refine RL.q (Qt.mv rfl) ?_
        refine RL.q (Qt.nil rfl) ?_
        refine RL.q (Qt.fld rfl) ?_
        refine RL.q (Qt.ld rfl (by exact hS.at 0 rfl) (by rfl)) ?_
        refine RL.q (Qt.mv rfl) ?_
        refine RL.q (Qt.mv rfl) ?_
        refine RL.q (Qt.ixS rfl rfl (by omega) (by omega)) ?_
        refine RL.q (Qt.fld rfl) ?_
        refine RL.e0 (Ef.st hS 1 rfl rfl rfl (by rfl) (by rfl) (by (simp only [wr_size]; omega))) ?_
        intro _ w hS
        simp (disch := omega) only [cells_int', Nat.zero_add] at hS
        refine RL.nil ?_
        refine RE.sqN ?_
        refine RC.seq ?_
        refine RC.region rfl ?_
        refine RL.q (Qt.mv rfl) ?_
        refine RL.q (Qt.nil rfl) ?_
        refine RL.q (Qt.fld rfl) ?_
        refine RL.q (Qt.ld rfl (by exact hS.at 0 rfl) (by rfl)) ?_
        refine RL.q (Qt.mv rfl) ?_
        refine RL.q (Qt.mv rfl) ?_
        refine RL.q (Qt.ixS rfl rfl (by omega) (by omega)) ?_
        refine RL.q (Qt.fld rfl) ?_
        refine RL.e0 (Ef.st hS 1 rfl rfl rfl (by rfl) (by rfl) (by (simp only [wr_size]; omega))) ?_
        intro _ w hS
        simp (disch := omega) only [cells_int', Nat.zero_add] at hS
        refine RL.nil ?_
        refine RE.sqN ?_
        refine RC.seq ?_
        refine RC.region rfl ?_
        refine RL.q (Qt.mv rfl) ?_
        refine RL.q (Qt.as rfl) ?_
        refine RL.nil ?_
        refine RE.sqN ?_
        refine RC.ret ?_
        refine RE.retB rfl ⟨rfl, rfl⟩ (hS.tabShut 1 rfl ?_)
        have e2 : linkF f y x = { f with next := upd f.next x (f.child y), prev := upd (upd f.prev x y) (f.child y) x, child := upd f.child y x } := by simp [linkF, h3]
        rw [e2]; exact hc4
      · skip
        have h3 : f.child y = -1 := Classical.not_not.1 (of_decide_eq_false h3)
        have hc4 := ps2 hc2 (i := y) (by omega) (by omega) x
        refine RC.skip ?_
        refine RE.sqN ?_
        refine RC.seq ?_
        refine RC.region rfl ?_
        refine RL.q (Qt.mv rfl) ?_
        refine RL.q (Qt.nil rfl) ?_
        refine RL.q (Qt.fld rfl) ?_
        refine RL.q (Qt.ld rfl (by exact hS.at 0 rfl) (by rfl)) ?_
        refine RL.q (Qt.mv rfl) ?_
        refine RL.q (Qt.mv rfl) ?_
        refine RL.q (Qt.ixS rfl rfl (by omega) (by omega)) ?_
        refine RL.q (Qt.fld rfl) ?_
        refine RL.e0 (Ef.st hS 1 rfl rfl rfl (by rfl) (by rfl) (by (simp only [wr_size]; omega))) ?_
        intro _ w hS
        simp (disch := omega) only [cells_int', Nat.zero_add] at hS
        refine RL.nil ?_
        refine RE.sqN ?_
        refine RC.seq ?_
        refine RC.region rfl ?_
        refine RL.q (Qt.mv rfl) ?_
        refine RL.q (Qt.as rfl) ?_
        refine RL.nil ?_
        refine RE.sqN ?_
        refine RC.ret ?_
        refine RE.retB rfl ⟨rfl, rfl⟩ (hS.tabShut 1 rfl ?_)
        have e2 : linkF f y x = { f with next := upd f.next x (f.child y), prev := upd f.prev x y, child := upd f.child y x } := by simp [linkF, h3]
        rw [e2]; exact hc4
    · skip
      have e : meldF f x y = (linkF f x y, x) := by rw [meldF, if_neg h, if_neg (by rw [h2]; decide)]
      rw [e]
      obtain ⟨c, hc, hS⟩ := hS.tabOpen 1 rfl
      try simp only [List.set_cons_zero, List.set_cons_succ] at hS
      have hsz := hc.size
      have hch := (hb x (by omega) (by omega)).1
      have hc1 := ps3 hc (i := y) (by omega) (by omega) (f.child x)
      have hc2 := ps4 hc1 (i := y) (by omega) (by omega) x
      refine RC.skip ?_
      refine RE.sqN ?_
      refine RC.seq ?_
      refine RC.region rfl ?_
      refine RL.q (Qt.mv rfl) ?_
      refine RL.q (Qt.nil rfl) ?_
      refine RL.q (Qt.fld rfl) ?_
      refine RL.q (Qt.ld rfl (by exact hS.at 0 rfl) (by rfl)) ?_
      refine RL.q (Qt.mv rfl) ?_
      refine RL.q (Qt.ixS rfl rfl (by omega) (by omega)) ?_
      refine RL.q (Qt.fld rfl) ?_
      refine RL.q (Qt.ld rfl (by exact hS.at 1 rfl) (by exact pr2 hc (by omega) (by omega))) ?_
      refine RL.q (Qt.as rfl) ?_
      refine RL.nil ?_
      refine RE.sqN ?_
      refine RC.seq ?_
      refine RC.drawn 18 [0, 1, 2, 3, 4, 5, 6, 7, 8, 9, 10, 11, 12, 13, 14, 15, 16, 17] (fun w' => w'.heap[b]? = some (hC bl n cap root many)) (by kernel_rfl) (by kernel_rfl) ((by exact hS.drew.get 0 rfl)) (fun hh => ?_)
      replace hS := hS.drew
      refine RH.q hh (Calm.sq Calm.body) rfl (by kernel_rfl) (Qt.mv rfl) ?_
      refine RH.q hh (Calm.sq Calm.body) rfl (by kernel_rfl) (Qt.nil rfl) ?_
      refine RH.q hh (Calm.sq Calm.body) rfl (by kernel_rfl) (Qt.fld rfl) ?_
      refine RH.q hh (Calm.sq Calm.body) rfl (by kernel_rfl) (Qt.ld rfl (fun _ h => h) (by rfl)) ?_
      refine RH.q hh (Calm.sq Calm.body) rfl (by kernel_rfl) (Qt.mv rfl) ?_
      refine RH.q hh (Calm.sq Calm.body) rfl (by kernel_rfl) (Qt.mv rfl) ?_
      refine RH.q hh (Calm.sq Calm.body) rfl (by kernel_rfl) (Qt.nil rfl) ?_
      refine RH.q hh (Calm.sq Calm.body) rfl (by kernel_rfl) (Qt.fld rfl) ?_
      refine RH.q hh (Calm.sq Calm.body) rfl (by kernel_rfl) (Qt.ld rfl (fun _ h => h) (by rfl)) ?_
      refine RH.q hh (Calm.sq Calm.body) rfl (by kernel_rfl) (Qt.mv rfl) ?_
      refine RH.q hh (Calm.sq Calm.body) rfl (by kernel_rfl) (Qt.mv rfl) ?_
      refine RH.q hh (Calm.sq Calm.body) rfl (by kernel_rfl) (Qt.mv rfl) ?_
      refine RH.q hh (Calm.sq Calm.body) rfl (by kernel_rfl) (Qt.ixS rfl rfl (by omega) (by omega)) ?_
      refine RH.q hh (Calm.sq Calm.body) rfl (by kernel_rfl) (Qt.fld rfl) ?_
      refine RH.e0 hh rfl (by kernel_rfl) (Ef.st hS 1 rfl rfl rfl (by rfl) (by rfl) (by omega)) ?_
      intro _ w hS
      simp (disch := omega) only [cells_int', Nat.zero_add] at hS
      refine ⟨(by exact hS.get 0 rfl), ?_⟩
      refine RH.q hh (Calm.sq Calm.body) rfl (by kernel_rfl) (Qt.ixS rfl rfl (by omega) (by omega)) ?_
      refine RH.q hh (Calm.sq Calm.body) rfl (by kernel_rfl) (Qt.fld rfl) ?_
      refine RH.e0 hh rfl (by kernel_rfl) (Ef.st hS 1 rfl rfl rfl (by rfl) (by rfl) (by (simp only [wr_size]; omega))) ?_
      intro _ w hS
      simp (disch := omega) only [cells_int', Nat.zero_add] at hS
      refine ⟨(by exact hS.get 0 rfl), ?_⟩
      refine RH.done hh (by kernel_rfl) ?_
      refine RL.nil ?_
      refine RE.sqN ?_
      refine RC.seq ?_
      refine RC.seq ?_
      refine RC.region rfl ?_
      refine RL.q (Qt.mv rfl) ?_
      refine RL.q (Qt.neq rfl rfl) ?_
      refine RL.nil ?_
      refine RE.sqN ?_
      refine RC.cond rfl (fun h3 => ?_) (fun h3 => ?_)
      · skip
        have h3 : f.child x ≠ -1 := of_decide_eq_true h3
        have hc3 := ps4 hc2 (i := f.child x) (by omega) (by omega) y
        have hc4 := ps2 hc3 (i := x) (by omega) (by omega) y
        refine RC.region rfl ?_
        refine RL.q (Qt.mv rfl) ?_
        refine RL.q (Qt.nil rfl) ?_
        refine RL.q (Qt.fld rfl) ?_
        refine RL.q (Qt.ld rfl (by exact hS.at 0 rfl) (by rfl)) ?_
        refine RL.q (Qt.mv rfl) ?_
        refine RL.q (Qt.mv rfl) ?_
        refine RL.q (Qt.ixS rfl rfl (by omega) (by omega)) ?_
        refine RL.q (Qt.fld rfl) ?_
        refine RL.e0 (Ef.st hS 1 rfl rfl rfl (by rfl) (by rfl) (by (simp only [wr_size]; omega))) ?_
        intro _ w hS
        simp (disch := omega) only [cells_int', Nat.zero_add] at hS
        refine RL.nil ?_
        refine RE.sqN ?_
        refine RC.seq ?_
        refine RC.region rfl ?_
        refine RL.q (Qt.mv rfl) ?_
        refine RL.q (Qt.nil rfl) ?_
        refine RL.q (Qt.fld rfl) ?_
        refine RL.q (Qt.ld rfl (by exact hS.at 0 rfl) (by rfl)) ?_
        refine RL.q (Qt.mv rfl) ?_
        refine RL.q (Qt.mv rfl) ?_
        refine RL.q (Qt.ixS rfl rfl (by omega) (by omega)) ?_
        refine RL.q (Qt.fld rfl) ?_
        refine RL.e0 (Ef.st hS 1 rfl rfl rfl (by rfl) (by rfl) (by (simp only [wr_size]; omega))) ?_
        intro _ w hS
        simp (disch := omega) only [cells_int', Nat.zero_add] at hS
        refine RL.nil ?_
        refine RE.sqN ?_
        refine RC.seq ?_
        refine RC.region rfl ?_
        refine RL.q (Qt.mv rfl) ?_
        refine RL.q (Qt.as rfl) ?_
        refine RL.nil ?_
        refine RE.sqN ?_
        refine RC.ret ?_
        refine RE.retB rfl ⟨rfl, rfl⟩ (hS.tabShut 1 rfl ?_)
        have e2 : linkF f x y = { f with next := upd f.next y (f.child x), prev := upd (upd f.prev y x) (f.child x) y, child := upd f.child x y } := by simp [linkF, h3]
        rw [e2]; exact hc4
      · skip
        have h3 : f.child x = -1 := Classical.not_not.1 (of_decide_eq_false h3)
        have hc4 := ps2 hc2 (i := x) (by omega) (by omega) y
        refine RC.skip ?_
        refine RE.sqN ?_
        refine RC.seq ?_
        refine RC.region rfl ?_
        refine RL.q (Qt.mv rfl) ?_
        refine RL.q (Qt.nil rfl) ?_
        refine RL.q (Qt.fld rfl) ?_
        refine RL.q (Qt.ld rfl (by exact hS.at 0 rfl) (by rfl)) ?_
        refine RL.q (Qt.mv rfl) ?_
        refine RL.q (Qt.mv rfl) ?_
        refine RL.q (Qt.ixS rfl rfl (by omega) (by omega)) ?_
        refine RL.q (Qt.fld rfl) ?_
        refine RL.e0 (Ef.st hS 1 rfl rfl rfl (by rfl) (by rfl) (by (simp only [wr_size]; omega))) ?_
        intro _ w hS
        simp (disch := omega) only [cells_int', Nat.zero_add] at hS
        refine RL.nil ?_
        refine RE.sqN ?_
        refine RC.seq ?_
        refine RC.region rfl ?_
        refine RL.q (Qt.mv rfl) ?_
        refine RL.q (Qt.as rfl) ?_
        refine RL.nil ?_
        refine RE.sqN ?_
        refine RC.ret ?_
        refine RE.retB rfl ⟨rfl, rfl⟩ (hS.tabShut 1 rfl ?_)
        have e2 : linkF f x y = { f with next := upd f.next y (f.child x), prev := upd f.prev y x, child := upd f.child x y } := by simp [linkF, h3]
        rw [e2]; exact hc4

set_option maxHeartbeats 1000000 in
theorem phLoose (b bl n cap : Nat) (f : PH) (root many x : Int) (hx : 0 ≤ x ∧ x < n) : Ct Try.prog 108 #[.pointer (some ⟨b, 0, none⟩), .int .i64 x] [pt b (hC bl n cap root many), hT bl n f]
    (fun v ps => v = .tuple #[] ∧ ps = [pt b (hC bl n cap root many), hT bl n (looseF f x)]) := by
  refine Ct.enter Try.func108 rfl (Nat.le_of_ble_eq_true rfl) ?_
  intro oo w R hS
  change RC _ _ _ _ _ _ [(0, _), (1, _)] _
  obtain ⟨c, hc, hS⟩ := hS.tabOpen 1 rfl
  try simp only [List.set_cons_zero, List.set_cons_succ] at hS
  have hsz := hc.size
  have hc1 := ps3 hc (i := x) (by omega) (by omega) (-1)
  have hc2 := ps4 hc1 (i := x) (by omega) (by omega) (-1)
  refine RC.drawn 16 [0, 1, 2, 3, 4, 5, 6, 7, 8, 9, 10, 11, 12, 13, 14, 15] (fun w' => w'.heap[b]? = some (hC bl n cap root many)) (by kernel_rfl) (by kernel_rfl) ((by exact hS.drew.get 0 rfl)) (fun hh => ?_)
  replace hS := hS.drew
  refine RH.q hh Calm.body rfl (by kernel_rfl) (Qt.mv rfl) ?_
  refine RH.q hh Calm.body rfl (by kernel_rfl) (Qt.nil rfl) ?_
  refine RH.q hh Calm.body rfl (by kernel_rfl) (Qt.fld rfl) ?_
  refine RH.q hh Calm.body rfl (by kernel_rfl) (Qt.ld rfl (fun _ h => h) (by first  | rfl)) ?_
  refine RH.q hh Calm.body rfl (by kernel_rfl) (Qt.mv rfl) ?_
  refine RH.q hh Calm.body rfl (by kernel_rfl) (Qt.mv rfl) ?_
  refine RH.q hh Calm.body rfl (by kernel_rfl) (Qt.nil rfl) ?_
  refine RH.q hh Calm.body rfl (by kernel_rfl) (Qt.fld rfl) ?_
  refine RH.q hh Calm.body rfl (by kernel_rfl) (Qt.ld rfl (fun _ h => h) (by first  | rfl)) ?_
  refine RH.q hh Calm.body rfl (by kernel_rfl) (Qt.mv rfl) ?_
  refine RH.q hh Calm.body rfl (by kernel_rfl) (Qt.ixS rfl rfl (by omega) (by omega)) ?_
  refine RH.q hh Calm.body rfl (by kernel_rfl) (Qt.fld rfl) ?_
  refine RH.e0 hh rfl (by kernel_rfl) (Ef.st hS 1 rfl rfl rfl (by rfl) (by rfl) (by omega)) ?_
  intro _ w hS
  simp (disch := omega) only [cells_int', Nat.zero_add] at hS
  refine ⟨(by exact hS.get 0 rfl), ?_⟩
  refine RH.q hh Calm.body rfl (by kernel_rfl) (Qt.ixS rfl rfl (by omega) (by omega)) ?_
  refine RH.q hh Calm.body rfl (by kernel_rfl) (Qt.fld rfl) ?_
  refine RH.e0 hh rfl (by kernel_rfl) (Ef.st hS 1 rfl rfl rfl (by rfl) (by rfl) (by (simp only [wr_size]; omega))) ?_
  intro _ w hS
  simp (disch := omega) only [cells_int', Nat.zero_add] at hS
  refine ⟨(by exact hS.get 0 rfl), ?_⟩
  refine RH.done hh (by kernel_rfl) ?_
  refine RL.nil ?_
  exact RE.endB rfl ⟨rfl, rfl⟩ (hS.tabShut 1 rfl hc2)
end Go.Proofs

/- The heap of deadlines: siblings are gathered, two by two, and then from the last one on. -/
namespace Go.Proofs
open Go Go.Gx
variable {oo : World}

structure GI (n : Nat) (f0 f : PH) (t rest : BT) (ts : List BT) : Prop where
  rep : ∃ p, Rep f p rest
  ord : Ord f rest
  trs : ∀ x ∈ ts, Tr f x
  perm : (rest.ids ++ ts.flatMap BT.ids).Perm t.ids
  mv : Mv f0 f t.ids
  bd : Bd n f
def gAfter (f : PH) (b : Int) : Int := if b = -1 then -1 else f.next b
def gLoose (f : PH) (a b : Int) : PH := if b = -1 then looseF f a else looseF (looseF f b) a

theorem mem_flat {ts : List BT} {x : BT} (hx : x ∈ ts) {i : Int} (hi : i ∈ x.ids) : i ∈ ts.flatMap BT.ids := List.mem_flatMap.2 ⟨x, hx, hi⟩

theorem GI.step {n : Nat} {f0 f : PH} {t : BT} {ts : List BT} {a : Int} {c nx : BT} (h : GI n f0 f t (.node a c nx) ts) (hnd : t.ids.Nodup) (hnn : ∀ i ∈ t.ids, 0 ≤ i ∧ i < n) :
    (0 ≤ a ∧ a < n) ∧ f.next a = nx.root ∧ (nx.root = -1 ∨ (0 ≤ nx.root ∧ nx.root < n)) ∧ (-1 ≤ gAfter f nx.root ∧ gAfter f nx.root < n) ∧ Bd n (gLoose f a nx.root) ∧
    ∃ rest' x, GI n f0 (meldF (gLoose f a nx.root) a nx.root).1 t rest' (ts ++ [x]) ∧ (meldF (gLoose f a nx.root) a nx.root).2 = x.root ∧ rest'.root = gAfter f nx.root ∧ rest'.ids.length < (BT.node a c nx).ids.length := by
  obtain ⟨p, hrep⟩ := h.rep
  have hall : ((BT.node a c nx).ids ++ ts.flatMap BT.ids).Nodup := h.perm.nodup_iff.2 hnd
  have hnn' : ∀ i ∈ (BT.node a c nx).ids, 0 ≤ i ∧ i < n := fun i hi => hnn i (h.perm.mem_iff.1 (List.mem_append.2 (.inl hi)))
  have hsub : ∀ i ∈ (BT.node a c nx).ids, i ∈ t.ids := fun i hi => h.perm.mem_iff.1 (List.mem_append.2 (.inl hi))
  have ha := hnn' a (by simp [BT.ids])
  rw [List.nodup_append] at hall
  obtain ⟨n1, n2, n3⟩ := hall
  have hnext : f.next a = nx.root := hrep.2.2.1
  cases nx with
  | nil =>
    have hr : BT.nil.root = -1 := rfl
    have hg : gLoose f a BT.nil.root = looseF f a := if_pos rfl
    have hf : gAfter f BT.nil.root = -1 := if_pos rfl
    have hm : meldF (looseF f a) a (-1) = (looseF f a, a) := by
      rw [meldF, if_pos (.inr rfl), Int.max_eq_left (by omega)]
    rw [hg, hf, hr, hm]
    obtain ⟨t1, m1⟩ := pair_one hrep h.ord n1 (fun i hi => (hnn' i hi).1)
    refine ⟨ha, hnext, .inl rfl, ⟨by omega, by omega⟩, h.bd.loose a, .nil, .node a c .nil, ⟨⟨-1, trivial⟩, trivial, ?_, ?_, ?_, h.bd.loose a⟩, rfl, rfl, by simp [BT.ids]⟩
    · intro x hx
      rcases List.mem_append.1 hx with hx | hx
      · exact (h.trs x hx).mv m1 fun i hi e => n3 i e i (mem_flat hx hi) rfl
      · simp at hx; subst hx; exact t1
    · rw [List.flatMap_append]
      refine List.Perm.trans ?_ h.perm
      simp only [BT.ids, List.nil_append, List.flatMap_cons, List.flatMap_nil, List.append_nil]
      exact List.perm_append_comm
    · exact (h.mv.trans m1).mono fun i hi => by
        rcases List.mem_append.1 hi with hi | hi
        · exact hi
        · exact hsub i hi
  | node b d r =>
    have hb := hnn' b (by simp [BT.ids])
    have hr : (BT.node b d r).root = b := rfl
    have hb1 : ¬ b = -1 := by omega
    have hg : gLoose f a b = looseF (looseF f b) a := if_neg hb1
    have hf : gAfter f b = f.next b := if_neg hb1
    rw [hr, hg, hf]
    obtain ⟨t1, t2, t3, m1, e1, e2⟩ := pair_two hrep h.ord n1 (fun i hi => (hnn' i hi).1)
    have hdis : ((BT.node a c .nil).ids ++ (BT.node b d .nil).ids).Nodup := by
      have hp : (BT.node a c (.node b d r)).ids.Perm (((BT.node a c .nil).ids ++ (BT.node b d .nil).ids) ++ r.ids) := by
        simp only [BT.ids, List.append_nil]
        rw [List.perm_iff_count]; intro z; simp only [List.count_cons, List.count_append]; omega
      have := hp.nodup_iff.1 n1
      rw [List.nodup_append] at this
      exact this.1
    have hp : (BT.node a c (.node b d r)).ids.Perm (r.ids ++ ((BT.node a c .nil).ids ++ (BT.node b d .nil).ids)) := by
      simp only [BT.ids, List.append_nil]
      rw [List.perm_iff_count]; intro z; simp only [List.count_cons, List.count_append]; omega
    have hrd : ∀ i ∈ r.ids, i ∉ (BT.node a c .nil).ids ++ (BT.node b d .nil).ids := fun i hi e => by
      have := hp.nodup_iff.1 n1
      rw [List.nodup_append] at this
      exact this.2.2 i hi i e rfl
    obtain ⟨k1, k2, k3, k4⟩ := meld_tr t1 t2 hdis
    change Tr (meldF _ a b).1 _ at k1
    change (meldF _ a b).2 = _ at k2
    change Mv _ (meldF _ a b).1 _ at k4
    have hmvS : Mv f (meldF (looseF (looseF f b) a) a b).1 ((BT.node a c .nil).ids ++ (BT.node b d .nil).ids) := (m1.trans k4).mono fun i hi => by
      rcases List.mem_append.1 hi with hi | hi
      · simp only [List.mem_cons, List.not_mem_nil, or_false] at hi
        rcases hi with rfl | rfl <;> simp [BT.ids]
      · exact hi
    have hin : ∀ i ∈ (BT.node a c .nil).ids ++ (BT.node b d .nil).ids, i ∈ (BT.node a c (.node b d r)).ids := fun i hi => hp.mem_iff.2 (List.mem_append.2 (.inr hi))
    have hbd : Bd n (looseF (looseF f b) a) := (h.bd.loose b).loose a
    refine ⟨ha, hnext, .inr hb, (h.bd b hb.1 hb.2).2.1, hbd, r, meldT (looseF (looseF f b) a) (.node a c .nil) (.node b d .nil), ⟨⟨b, t3.mv k4 hrd⟩, h.ord.2.2.2.2.it hmvS.it, ?_, ?_, ?_, (hbd.meld (by omega) (by omega)).1⟩, k2, e2.symm, ?_⟩
    · intro x hx
      rcases List.mem_append.1 hx with hx | hx
      · exact (h.trs x hx).mv hmvS fun i hi e => n3 i (hin i e) i (mem_flat hx hi) rfl
      · simp at hx; subst hx; exact k1
    · rw [List.flatMap_append]
      simp only [List.flatMap_cons, List.flatMap_nil, List.append_nil]
      refine List.Perm.trans ?_ h.perm
      have q1 : (ts.flatMap BT.ids ++ (meldT (looseF (looseF f b) a) (.node a c .nil) (.node b d .nil)).ids).Perm (ts.flatMap BT.ids ++ ((BT.node a c .nil).ids ++ (BT.node b d .nil).ids)) := (List.perm_append_left_iff _).2 k3
      refine ((List.perm_append_left_iff _).2 q1).trans ?_
      refine List.Perm.trans ?_ ((List.perm_append_right_iff _).2 hp.symm)
      rw [List.append_assoc]
      exact (List.perm_append_left_iff _).2 List.perm_append_comm
    · exact (h.mv.trans hmvS).mono fun i hi => by
        rcases List.mem_append.1 hi with hi | hi
        · exact hi
        · exact hsub i (hin i hi)
    · simp only [BT.ids, List.length_cons, List.length_append]; omega

structure GB (n : Nat) (f0 f : PH) (t : BT) (ts : List BT) (m : Nat) (g : BT) : Prop where
  trs : ∀ x ∈ ts.take m, Tr f x
  gtr : Tr f g
  perm : ((ts.take m).flatMap BT.ids ++ g.ids).Perm t.ids
  mv : Mv f0 f t.ids
  bd : Bd n f
theorem GI.toB {n : Nat} {f0 f : PH} {t : BT} {ts : List BT} (h : GI n f0 f t .nil ts) : GB n f0 f t ts ts.length .nil :=
  ⟨by rw [List.take_length]; exact h.trs, Tr.nil, by rw [List.take_length]; simpa [BT.ids] using h.perm, h.mv, h.bd⟩
theorem root_in {n : Nat} {t x : BT} (h : ∀ i ∈ x.ids, i ∈ t.ids) (hnn : ∀ i ∈ t.ids, 0 ≤ i ∧ i < n) : -1 ≤ x.root ∧ x.root < n := by
  rcases x.root_mem with ⟨e, _⟩ | e
  · omega
  · have := hnn _ (h _ e); omega
theorem GB.step {n : Nat} {f0 f : PH} {t : BT} {ts : List BT} {m : Nat} {g : BT} (hm : m < ts.length) (h : GB n f0 f t ts (m + 1) g) (hnd : t.ids.Nodup) (hnn : ∀ i ∈ t.ids, 0 ≤ i ∧ i < n) :
    (-1 ≤ g.root ∧ g.root < n) ∧ (-1 ≤ (ts[m]).root ∧ (ts[m]).root < n) ∧ GB n f0 (meldF f g.root (ts[m]).root).1 t ts m (meldT f g ts[m]) ∧ (meldF f g.root (ts[m]).root).2 = (meldT f g ts[m]).root := by
  have htk : ts.take (m + 1) = ts.take m ++ [ts[m]] := List.take_succ_eq_append_getElem hm
  have hp := h.perm
  rw [htk, List.flatMap_append, List.flatMap_cons, List.flatMap_nil, List.append_nil, List.append_assoc] at hp
  have hp2 : ((ts.take m).flatMap BT.ids ++ (g.ids ++ (ts[m]).ids)).Perm t.ids := ((List.perm_append_left_iff _).2 List.perm_append_comm).trans hp
  have hall := hp2.nodup_iff.2 hnd
  rw [List.nodup_append] at hall
  obtain ⟨n1, n2, n3⟩ := hall
  have hgi : ∀ i ∈ g.ids, i ∈ t.ids := fun i hi => hp2.mem_iff.1 (by simp [hi])
  have hxi : ∀ i ∈ (ts[m]).ids, i ∈ t.ids := fun i hi => hp2.mem_iff.1 (by simp [hi])
  have hg := root_in hgi hnn
  have hx := root_in hxi hnn
  obtain ⟨k1, k2, k3, k4⟩ := meld_tr h.gtr (h.trs ts[m] (by rw [htk]; exact List.mem_append.2 (.inr (List.mem_singleton.2 rfl)))) n2
  refine ⟨hg, hx, ⟨fun x hx => ?_, k1, ((List.perm_append_left_iff _).2 k3).trans hp2, (h.mv.trans k4).mono fun i hi => ?_, (h.bd.meld hg hx).1⟩, k2⟩
  · exact (h.trs x (by rw [htk]; exact List.mem_append.2 (.inl hx))).mv k4 fun i hi e => n3 i (mem_flat hx hi) i e rfl
  · rcases List.mem_append.1 hi with hi | hi
    · exact hi
    · rcases List.mem_append.1 hi with hi | hi
      · exact hgi i hi
      · exact hxi i hi

theorem lastFirst (l : List Int) {k : Nat} (hk : k < ((List.range l.length).reverse.map fun (i : Nat) => #[Value.int .i64 i, .int .i64 (l.getD i 0)]).length) :
    ((List.range l.length).reverse.map fun (i : Nat) => #[Value.int .i64 i, .int .i64 (l.getD i 0)])[k] = #[.int .i64 ((l.length - 1 - k : Nat) : Int), .int .i64 (l.getD (l.length - 1 - k) 0)] := by
  rw [List.getElem_map, List.getElem_reverse, List.getElem_range, List.length_range]

theorem backward (v : Value) : Ct Try.prog 109 #[v] [] (fun u ps => ∃ b1, u = .func (.func 110) #[] #[.pointer (some ⟨b1, 0, none⟩)] ∧ ps = [pt b1 (.cells v.cells 53 (0, 0))]) := by
  refine Ct.enter Try.func109 rfl (Nat.le_of_ble_eq_true rfl) ?_
  intro oo w R hS
  change RC _ _ _ _ _ _ [(0, _)] _
  refine RC.seq ?_
  refine RC.region rfl ?_
  refine RL.e (Ef.box hS rfl) ?_
  rintro _ w ⟨b1, rfl, hS⟩
  try simp (disch := omega) only [List.set_cons_zero, List.set_cons_succ, cells_int, cells_bool, cells_ptr, cells_slice, cells_func, cells_agg, cells_map, cells_int', cells_bool', cells_ptr', cells_slice', cells_agg', cells_map', cells_func', Nat.zero_add, wr, List.setIfInBounds_toArray] at hS
  refine RL.q (Qt.as rfl) ?_
  refine RL.nil ?_
  refine RE.sqN ?_
  refine RC.seq ?_
  refine RC.region rfl ?_
  refine RL.q (Qt.mkf1 rfl) ?_
  refine RL.q (Qt.as rfl) ?_
  refine RL.nil ?_
  refine RE.sqN ?_
  refine RC.ret ?_
  exact RE.retB rfl ⟨b1, rfl, rfl⟩ hS

set_option maxHeartbeats 1000000 in
theorem backward1 (b1 : Nat) (sp : Option Addr) (cap : Nat) (l : List Int) (hl : l.length ≤ 1000000) : It Try.prog 110 #[.pointer (some ⟨b1, 0, none⟩)]
    [pt b1 (.cells #[.slice sp l.length cap] 53 (0, 0)), own (.slice sp l.length cap) 3 1 l.length (ints l)] ((List.range l.length).reverse.map fun (i : Nat) => #[.int .i64 i, .int .i64 (l.getD i 0)]) := by
  refine It.enter Try.func110 rfl (Nat.le_of_ble_eq_true rfl) ?_
  intro oo lY J X w hY hS
  change RC _ _ _ _ _ _ [(0, _), (1, _)] _
  refine RC.seq ?_
  refine RC.region rfl ?_
  refine RL.q (Qt.ld rfl (by exact hS.at 0 rfl) (by first  | rfl)) ?_
  refine RL.q (Qt.lenS rfl) ?_
  refine RL.q ((by exact Qt.subI rfl rfl (by dsimp only [inK]; omega))) ?_
  refine RL.q (Qt.as rfl) ?_
  refine RL.nil ?_
  refine RE.sqN ?_
  refine RC.block ?_
  refine RC.loop (γ := Nat × Int) (fun g E w' => E = [(3, .int .i64 g.2), (0, .func (.yield lY) #[] #[]), (1, .pointer (some ⟨b1, 0, none⟩))] ∧ Sat oo w' [pt b1 (.cells #[.slice sp l.length cap] 53 (0, 0)), own (.slice sp l.length cap) 3 1 l.length (ints l), J g.1] ∧ g.1 ≤ l.length ∧ g.2 = (l.length : Int) - 1 - g.1) (fun g => l.length - g.1) (0, (l.length : Int) - 1) _ (by (repeat (first | exact Sub.nil | refine Sub.cons rfl ?_))) ⟨rfl, hS, by simp, by simp⟩ ?_
  clear hS
  rintro ⟨k, v⟩ E w ⟨rfl, hS, hk, hv0⟩
  dsimp only at hS hk hv0
  refine RC.seq ?_
  refine RC.seq ?_
  refine RC.region rfl ?_
  refine RL.q (Qt.mv rfl) ?_
  refine RL.q (Qt.geq rfl rfl) ?_
  refine RL.nil ?_
  refine RE.sqN ?_
  refine RC.cond rfl (fun h => ?_) (fun h => ?_)
  · skip
    have h := of_decide_eq_true h
    obtain ⟨m, rfl, hm⟩ : ∃ m : Nat, v = m ∧ m = l.length - 1 - k := ⟨l.length - 1 - k, by omega, rfl⟩
    have hlt : k < l.length := by omega
    have hml : m < l.length := by omega
    have hyk := hY k (by simpa using hlt) w hS
    rw [lastFirst l (by simpa using hlt), ← hm] at hyk
    obtain ⟨bs, cap', c, hv, hc1, hc2, hc3, hc4, hS1⟩ := hS.ownPos 1 rfl (by omega)
    cases hv
    have hg : c.toList[0 + ((m : Nat) : Int).toNat * 1]? = some (.int .i64 (l.getD m 0)) := by
      rw [int_cell hc4 rfl hml]
      simp [hml]
    have hS := hS1
    refine RC.skip ?_
    refine RE.sqN ?_
    refine RC.seq ?_
    refine RC.block ?_
    refine RC.seq ?_
    refine RC.region rfl ?_
    refine RL.q (Qt.mv rfl) ?_
    refine RL.q (Qt.mv rfl) ?_
    refine RL.q (Qt.ld rfl (by exact hS.at 0 rfl) (by rfl)) ?_
    refine RL.q (Qt.mv rfl) ?_
    refine RL.q (Qt.ixS rfl rfl (by assumption) (by omega)) ?_
    refine RL.q (Qt.ld rfl (by exact hS.at 1 rfl) (by exact hg)) ?_
    refine RL.e (Ef.yield rfl rfl hyk) ?_
    rintro v17 w hv
    rcases hv with ⟨rfl, hS⟩ | ⟨rfl, hS⟩
    · skip
      refine RL.q (Qt.not rfl) ?_
      refine RL.nil ?_
      refine RE.sqN ?_
      refine RC.condF rfl (rfl) ?_
      refine RC.skip ?_
      refine RE.bkN ?_
      refine RE.sqN ?_
      refine RC.region rfl ?_
      refine RL.q (Qt.mv rfl) ?_
      refine RL.q ((by exact Qt.subI rfl rfl (by dsimp only [inK]; omega))) ?_
      refine RL.q (Qt.as rfl) ?_
      refine RL.nil ?_
      apply RE.lpN ((k + 1, (m : Int) - 1))
      case hI => exact ⟨rfl, hS, hlt, by dsimp only; omega⟩
      case hs => (repeat (first | exact Sub.nil | refine Sub.cons rfl ?_))
      case hm =>
        show l.length - (k + 1) < l.length - k
        omega
    · skip
      refine RL.q (Qt.not rfl) ?_
      refine RL.nil ?_
      refine RE.sqN ?_
      refine RC.condT rfl (rfl) ?_
      refine RC.ret ?_
      refine RE.bkR ?_
      refine RE.sqR ?_
      refine RE.lpR ?_
      refine RE.bkR ?_
      exact RE.retI rfl (.inr hS)
  · refine RC.exit ?_
    refine RE.sqX ?_
    refine RE.lpX ?_
    refine RE.bkX ?_
    have h := of_decide_eq_false h
    have hge : k = l.length := by omega
    have hkn : k = ((List.range l.length).reverse.map fun (i : Nat) => #[Value.int .i64 i, .int .i64 (l.getD i 0)]).length := by simp [hge]
    rw [hkn] at hS
    exact RE.endI rfl (.inl hS)

/-- What a round of the second loop leaves. -/
def gbP (bl b9 n : Nat) (f0 : PH) (t : BT) (ts : List BT) (m : Nat) : HP := fun F => ∃ x : PH × BT, GB n f0 x.1 t ts m x.2 ∧ Star [pt b9 (.cells #[.int .i64 x.2.root] 3 (0, 0)), hT bl n x.1] F
theorem gbP_open {w : World} {L : List HP} {bl b9 n m : Nat} {f0 : PH} {t : BT} {ts : List BT} (h : Sat oo w (gbP bl b9 n f0 t ts m :: L)) :
    ∃ f g, GB n f0 f t ts m g ∧ Sat oo w (pt b9 (.cells #[.int .i64 g.root] 3 (0, 0)) :: hT bl n f :: L) := by
  obtain ⟨⟨f, g⟩, h⟩ := h.ex (α := PH × BT) 0 rfl (q := fun x F => GB n f0 x.1 t ts m x.2 ∧ Star [pt b9 (.cells #[.int .i64 x.2.root] 3 (0, 0)), hT bl n x.1] F) (fun F h => h)
  exact ⟨f, g, h.fact 0 rfl (fun F hF => hF.1), (h.imp 0 rfl (fun F hF => hF.2)).unstar⟩
theorem gbP_shut {w : World} {L : List HP} {bl b9 n m : Nat} {f0 f : PH} {t g : BT} {ts : List BT} (hg : GB n f0 f t ts m g) (h : Sat oo w (pt b9 (.cells #[.int .i64 g.root] 3 (0, 0)) :: hT bl n f :: L)) : Sat oo w (gbP bl b9 n f0 t ts m :: L) :=
  (Sat.star (B := [pt b9 (.cells #[.int .i64 g.root] 3 (0, 0)), hT bl n f]) h).imp 0 rfl (fun F hF => ⟨(f, g), hg, hF⟩)

/-- What gathering leaves. -/
structure Gth (n : Nat) (f0 f : PH) (t g : BT) : Prop where
  tr : Tr f g
  perm : g.ids.Perm t.ids
  mv : Mv f0 f t.ids
  bd : Bd n f

set_option maxHeartbeats 4000000 in
theorem phGather (b bl n cap : Nat) (f0 : PH) (root many : Int) (t : BT) (hb : Bd n f0) (hn2 : n ≤ 1024) (hrep : ∃ p, Rep f0 p t) (hord : Ord f0 t) (hnd : t.ids.Nodup) (hnn : ∀ i ∈ t.ids, 0 ≤ i ∧ i < n) : Ct Try.prog 107 #[.pointer (some ⟨b, 0, none⟩), .int .i64 t.root] [pt b (hC bl n cap root many), hT bl n f0]
    (fun v ps => ∃ f g, v = .int .i64 g.root ∧ Gth n f0 f t g ∧ ps = [pt b (hC bl n cap root many), hT bl n f]) := by
  refine Ct.enter Try.func107 rfl (Nat.le_of_ble_eq_true rfl) ?_
  intro oo w R hS
  change RC _ _ _ _ _ _ [(0, _), (1, _)] _
  have hS := hS.nilOwn (T := 3) (sz := 1)
  refine RC.seq ?_
  refine RC.region rfl ?_
  refine RL.e (Ef.box hS rfl) ?_
  rintro _ w ⟨b2, rfl, hS⟩
  try simp (disch := omega) only [cells_ptr'] at hS
  refine RL.q (Qt.as rfl) ?_
  refine RL.nil ?_
  refine RE.sqN ?_
  refine RC.scope ?_
  refine RC.seq ?_
  refine RC.region rfl ?_
  refine RL.q (Qt.as rfl) ?_
  refine RL.nil ?_
  refine RE.sqN ?_
  refine RC.seq ?_
  refine RC.label ?_
  refine RE.sqN ?_
  refine RC.seq ?_
  refine RC.seq ?_
  refine RC.region rfl ?_
  refine RL.q (Qt.mv rfl) ?_
  refine RL.q (Qt.as rfl) ?_
  refine RL.nil ?_
  refine RE.sqN ?_
  refine RC.block ?_
  refine RC.loop (γ := ((BT × List BT) × (PH × Value))) (fun g E w' => E = [(6, .int .i64 g.1.1.root), (5, g.2.2), (2, .pointer (some ⟨b2, 0, none⟩))] ∧ Sat oo w' [pt b2 (.cells #[.pointer (some ⟨b, 0, none⟩)] 92 (0, 0)), own g.2.2 3 1 (g.1.2.map BT.root).length (ints (g.1.2.map BT.root)), pt b (hC bl n cap root many), hT bl n g.2.1, R] ∧ GI n f0 g.2.1 t g.1.1 g.1.2 ∧ g.1.2.length + g.1.1.ids.length ≤ t.ids.length) (fun g => g.1.1.ids.length) ((t, []), (f0, .slice none 0 0)) _ (by (repeat (first | exact Sub.nil | refine Sub.cons rfl ?_))) ⟨rfl, hS, ⟨hrep, hord, by simp, by simp, Mv.refl _ _, hb⟩, by simp⟩ ?_
  clear hS
  have hlen : t.ids.length ≤ n := nodup_bound n t.ids hnd hnn
  rintro ⟨⟨rest, ts⟩, f, s⟩ E w ⟨rfl, hS, hgi, hle⟩
  dsimp only at hS hgi hle
  refine RC.block ?_
  refine RC.seq ?_
  refine RC.seq ?_
  refine RC.region rfl ?_
  refine RL.q (Qt.mv rfl) ?_
  refine RL.q (Qt.eql rfl rfl) ?_
  refine RL.nil ?_
  refine RE.sqN ?_
  refine RC.cond rfl (fun h => ?_) (fun h => ?_)
  · skip
    have hr : rest = .nil := by
      have h : rest.root = -1 := of_decide_eq_true h
      rcases rest.root_mem with ⟨_, e⟩ | e
      · exact e
      · have := hnn _ (hgi.perm.mem_iff.1 (List.mem_append.2 (.inl e)))
        omega
    subst hr
    obtain ⟨sp, cps, rfl⟩ := hS.ownForm 1 rfl
    have hml : (ts.map BT.root).length = ts.length := List.length_map _
    refine RC.exit ?_
    refine RE.sqX ?_
    refine RE.bkY rfl ?_
    refine RE.lpX ?_
    refine RE.bkX ?_
    refine RE.sqN ?_
    refine RC.seq ?_
    refine RC.region rfl ?_
    refine RL.e (Ef.alloc hS) ?_
    rintro _ w ⟨b9, rfl, hS⟩
    try simp (disch := omega) only [cells_int'] at hS
    refine RL.e0 (Ef.st hS 0 rfl rfl rfl (by rfl) (by rfl) (by exact Nat.le_of_ble_eq_true rfl)) ?_
    intro _ w hS
    simp (disch := omega) only [List.set_cons_zero, cells_int', wr, List.setIfInBounds_toArray] at hS
    refine RL.nil ?_
    refine RE.sqN ?_
    refine RC.seq ?_
    refine RC.seq ?_
    refine RC.region rfl ?_
    refine RL.q (Qt.mv rfl) ?_
    refine RL.e (Ef.call hS (backward (.slice sp (ts.map BT.root).length cps)) rfl rfl Try.call109 [] [0, 1, 2, 3, 4, 5] (by decide) rfl rfl) ?_
    rintro v48 w ⟨ps, ⟨b1, rfl, rfl⟩, hS⟩
    refine RL.nil ?_
    refine RE.sqN ?_
    refine RC.block ?_
    have hS := gbP_shut hgi.toB (hS.pick [1, 5, 0, 2, 3, 4, 6] (by decide) rfl)
    refine RC.rangeFn hS (backward1 b1 sp cps (ts.map BT.root) (by omega)) rfl Try.call110 [1, 3] [0, 2, 4, 5] (by decide) rfl rfl (by simp) (by decide) (fun k => [gbP bl b9 n f0 t ts (ts.length - k), pt b2 (.cells #[.pointer (some ⟨b, 0, none⟩)] 92 (0, 0)), pt b (hC bl n cap root many), R]) (by simp) (fun _ _ => False) ?_ ?_ (fun _ _ _ _ h => h.elim)
    · intro k hk l' b' r w hr hS
      have hlt : k < ts.length := by simpa using hk
      rw [lastFirst _ hk]
      obtain ⟨m, hm1, hm2⟩ : ∃ m, ts.length - k = m + 1 ∧ (ts.map BT.root).length - 1 - k = m := ⟨ts.length - k - 1, by omega, by omega⟩
      have hmlt : m < ts.length := by omega
      have hroot : (ts.map BT.root).getD m 0 = (ts[m]).root := by simp [hmlt]
      rw [hm2, hroot]
      rw [hm1] at hS
      change RC _ _ _ _ _ _ ((50, .int .i64 (ts[m]).root) :: (49, .int .i64 m) :: _) _
      obtain ⟨f', g, hgb, hS⟩ := gbP_open (hS.pick [2, 0, 1, 3, 4, 5, 6, 7] (by decide) rfl)
      obtain ⟨hg, hx, hgb', hr2⟩ := hgb.step hmlt hnd hnn
      refine RC.region rfl ?_
      refine RL.q (Qt.as rfl) ?_
      refine RL.nil ?_
      refine RE.begin (k := 8) hS rfl hr.1 (fun w hS => ?_)
      simp only [List.set_cons_zero, List.set_cons_succ] at hS
      refine RC.block ?_
      refine RC.region rfl ?_
      refine RL.q (Qt.ld rfl (by exact hS.at 4 rfl) (by first  | rfl)) ?_
      refine RL.q (Qt.ld rfl (by exact hS.at 0 rfl) (by first  | rfl)) ?_
      refine RL.q (Qt.mv rfl) ?_
      refine RL.e (Ef.call hS (phMeld b bl n cap f' root many g.root (ts[m]).root hgb.bd hg hx) rfl rfl Try.call100 [5, 1] [0, 2, 3, 4, 6, 7, 8] (by decide) rfl rfl) ?_
      rintro v54 w ⟨ps, ⟨rfl, rfl⟩, hS⟩
      rw [hr2]
      refine RL.e0 (Ef.st hS 2 rfl rfl rfl (by rfl) (by rfl) (by exact Nat.le_of_ble_eq_true rfl)) ?_
      intro _ w hS
      simp (disch := omega) only [List.set_cons_zero, cells_int', wr, List.setIfInBounds_toArray] at hS
      refine RL.nil ?_
      refine RE.bkN ?_
      refine RE.rdN hr ?_
      have hS := gbP_shut hgb' (hS.pick [2, 1, 3, 4, 5, 0, 6, 7, 8] (by decide) rfl)
      rw [show ts.length - (k + 1) = m by omega]
      exact hS.pick [1, 2, 0, 3, 4, 5, 6, 7] (by decide) rfl
    · intro b' w hS
      rw [show ts.length - ((List.range (ts.map BT.root).length).reverse.map fun (i : Nat) => #[Value.int .i64 i, .int .i64 ((ts.map BT.root).getD i 0)]).length = 0 by simp] at hS
      obtain ⟨f', g, hgb, hS⟩ := gbP_open (hS.pick [2, 0, 1, 3, 4, 5, 6] (by decide) rfl)
      refine RE.bkN ?_
      refine RE.sqN ?_
      refine RC.seq ?_
      refine RC.region rfl ?_
      refine RL.q (Qt.ld rfl (by exact hS.at 0 rfl) (by first  | rfl)) ?_
      refine RL.q (Qt.as rfl) ?_
      refine RL.nil ?_
      refine RE.sqN ?_
      refine RC.ret ?_
      refine RE.scR ?_
      refine RE.retM hS (k := 7) rfl rfl (ps := [pt b (hC bl n cap root many), hT bl n f']) ⟨f', g, rfl, ⟨hgb.gtr, by simpa using hgb.perm, hgb.mv, hgb.bd⟩, rfl⟩ [5, 1, 6] (by decide) rfl
  · skip
    have h : ¬ rest.root = -1 := of_decide_eq_false h
    cases rest with
    | nil => exact absurd rfl h
    | node a ca nx =>
      obtain ⟨ha, e1, hbr, haf, hbd, rest', x, hgi', e2, e3, hlt⟩ := hgi.step hnd hnn
      have hml : (ts.map BT.root).length = ts.length := List.length_map _
      have hnl : (BT.node a ca nx).ids.length ≤ t.ids.length := by omega
      have hpos : 0 < (BT.node a ca nx).ids.length := by simp [BT.ids]
      have hra : (BT.node a ca nx).root = a := rfl
      rw [hra]
      have er : ((ts ++ [x]).map BT.root).length = (ts.map BT.root).length + 1 := by simp
      have ei : ints ((ts ++ [x]).map BT.root) = ints (ts.map BT.root) ++ [.int .i64 x.root] := by simp [ints]
      obtain ⟨c, hc, hS⟩ := hS.tabOpen 3 rfl
      have hsz := hc.size
      have hcn : c.toList[0 + a.toNat * 6 + 3]? = some (.int .i64 nx.root) := by rw [← e1]; exact pr3 hc ha.1 ha.2
      refine RC.skip ?_
      refine RE.sqN ?_
      refine RC.seq ?_
      refine RC.region rfl ?_
      refine RL.q (Qt.ld rfl (by exact hS.at 0 rfl) (by rfl)) ?_
      refine RL.q (Qt.nil rfl) ?_
      refine RL.q (Qt.fld rfl) ?_
      refine RL.q (Qt.ld rfl (by exact hS.at 2 rfl) (by rfl)) ?_
      refine RL.q (Qt.mv rfl) ?_
      refine RL.q (Qt.ixS rfl rfl (by omega) (by omega)) ?_
      refine RL.q (Qt.fld rfl) ?_
      refine RL.q (Qt.ld rfl (by exact hS.at 3 rfl) (by exact hcn)) ?_
      refine RL.q (Qt.as rfl) ?_
      refine RL.nil ?_
      refine RE.sqN ?_
      refine RC.seq ?_
      refine RC.region rfl ?_
      refine RL.q (Qt.as rfl) ?_
      refine RL.nil ?_
      refine RE.sqN ?_
      refine RC.seq ?_
      refine RC.seq ?_
      refine RC.region rfl ?_
      refine RL.q (Qt.mv rfl) ?_
      refine RL.q (Qt.neq rfl rfl) ?_
      refine RL.nil ?_
      refine RE.sqN ?_
      refine RC.cond rfl (fun h2 => ?_) (fun h2 => ?_)
      · skip
        have h2 : nx.root ≠ -1 := of_decide_eq_true h2
        have hb0 := hbr.resolve_left h2
        have eaf : gAfter f nx.root = f.next nx.root := if_neg h2
        have elo : gLoose f a nx.root = looseF (looseF f nx.root) a := if_neg h2
        rw [eaf] at e3 haf
        rw [elo] at hbd hgi' e2
        have hcb : c.toList[0 + nx.root.toNat * 6 + 3]? = some (.int .i64 rest'.root) := by rw [e3]; exact pr3 hc hb0.1 hb0.2
        refine RC.seq ?_
        refine RC.region rfl ?_
        refine RL.q (Qt.ld rfl (by exact hS.at 0 rfl) (by rfl)) ?_
        refine RL.q (Qt.nil rfl) ?_
        refine RL.q (Qt.fld rfl) ?_
        refine RL.q (Qt.ld rfl (by exact hS.at 2 rfl) (by rfl)) ?_
        refine RL.q (Qt.mv rfl) ?_
        refine RL.q (Qt.ixS rfl rfl (by omega) (by omega)) ?_
        refine RL.q (Qt.fld rfl) ?_
        refine RL.q (Qt.ld rfl (by exact hS.at 3 rfl) (by exact hcb)) ?_
        refine RL.q (Qt.as rfl) ?_
        refine RL.nil ?_
        refine RE.sqN ?_
        refine RC.region rfl ?_
        refine RL.q (Qt.ld rfl (by exact hS.at 0 rfl) (by rfl)) ?_
        refine RL.q (Qt.mv rfl) ?_
        have hS := hS.tabShut 3 rfl hc
        try simp only [List.set_cons_zero, List.set_cons_succ] at hS
        refine RL.e (Ef.call hS (phLoose b bl n cap f root many nx.root hb0) rfl rfl Try.call108 [2, 3] [0, 1, 4] (by decide) rfl rfl) ?_
        rintro v35 w ⟨ps, ⟨rfl, rfl⟩, hS⟩
        refine RL.nil ?_
        refine RE.sqN ?_
        refine RC.seq ?_
        refine RC.region rfl ?_
        refine RL.q (Qt.ld rfl (by exact hS.at 2 rfl) (by rfl)) ?_
        refine RL.q (Qt.mv rfl) ?_
        refine RL.e (Ef.call hS (phLoose b bl n cap (looseF f nx.root) root many a ha) rfl rfl Try.call108 [0, 1] [2, 3, 4] (by decide) rfl rfl) ?_
        rintro v38 w ⟨ps, ⟨rfl, rfl⟩, hS⟩
        refine RL.nil ?_
        refine RE.sqN ?_
        refine RC.seq ?_
        refine RC.region rfl ?_
        refine RL.q (Qt.mv rfl) ?_
        refine RL.q (Qt.ld rfl (by exact hS.at 2 rfl) (by rfl)) ?_
        refine RL.q (Qt.mv rfl) ?_
        refine RL.q (Qt.mv rfl) ?_
        refine RL.e (Ef.call hS (phMeld b bl n cap _ root many a nx.root hbd (by omega) (by omega)) rfl rfl Try.call100 [0, 1] [2, 3, 4] (by decide) rfl rfl) ?_
        rintro v43 w ⟨ps, ⟨rfl, rfl⟩, hS⟩
        rw [e2]
        refine RL.e (Ef.bsl1 hS rfl) ?_
        rintro _ w ⟨b44, rfl, hS⟩
        try simp (disch := omega) only [cells_int'] at hS
        refine RL.e (Ef.app (k := 4) hS rfl rfl rfl (Src.pt (hS.get 0 rfl) (by exact Nat.le_of_ble_eq_true rfl)) (by omega) (by rfl)) ?_
        intro s45 w hS
        simp only [List.set_cons_succ, List.drop_zero] at hS
        (obtain ⟨sp45, cp45, rfl⟩ := hS.ownForm 4 rfl)
        refine RL.q (Qt.as rfl) ?_
        refine RL.nil ?_
        refine RE.sqN ?_
        refine RC.region rfl ?_
        refine RL.q (Qt.mv rfl) ?_
        refine RL.q (Qt.as rfl) ?_
        refine RL.nil ?_
        refine RE.bkN ?_
        apply RE.lpN (((rest', ts ++ [x]), (meldF (looseF (looseF f nx.root) a) a nx.root).1, .slice sp45 ((ts.map BT.root).length + 1) cp45))
        case hI =>
          refine ⟨rfl, ?_, hgi', ?_⟩
          · dsimp only
            rw [er, ei]
            exact hS.pick [3, 4, 1, 2, 5] (by decide) rfl
          · dsimp only
            rw [List.length_append, List.length_singleton]; omega
        case hs => (repeat (first | exact Sub.nil | refine Sub.cons rfl ?_))
        case hm => exact hlt
      · skip
        have h2 : nx.root = -1 := Classical.not_not.1 (of_decide_eq_false h2)
        have eaf : gAfter f nx.root = -1 := if_pos h2
        have elo : gLoose f a nx.root = looseF f a := if_pos h2
        rw [eaf] at e3 haf
        rw [elo] at hbd hgi' e2
        have hr' : rest' = .nil := by
          rcases rest'.root_mem with ⟨_, e⟩ | e
          · exact e
          · have := hnn _ (hgi'.perm.mem_iff.1 (List.mem_append.2 (.inl e)))
            omega
        subst hr'
        refine RC.skip ?_
        refine RE.sqN ?_
        refine RC.seq ?_
        refine RC.region rfl ?_
        refine RL.q (Qt.ld rfl (by exact hS.at 0 rfl) (by rfl)) ?_
        refine RL.q (Qt.mv rfl) ?_
        have hS := hS.tabShut 3 rfl hc
        try simp only [List.set_cons_zero, List.set_cons_succ] at hS
        refine RL.e (Ef.call hS (phLoose b bl n cap f root many a ha) rfl rfl Try.call108 [2, 3] [0, 1, 4] (by decide) rfl rfl) ?_
        rintro v38 w ⟨ps, ⟨rfl, rfl⟩, hS⟩
        refine RL.nil ?_
        refine RE.sqN ?_
        refine RC.seq ?_
        refine RC.region rfl ?_
        refine RL.q (Qt.mv rfl) ?_
        refine RL.q (Qt.ld rfl (by exact hS.at 2 rfl) (by rfl)) ?_
        refine RL.q (Qt.mv rfl) ?_
        refine RL.q (Qt.mv rfl) ?_
        refine RL.e (Ef.call hS (phMeld b bl n cap _ root many a nx.root hbd (by omega) (by omega)) rfl rfl Try.call100 [0, 1] [2, 3, 4] (by decide) rfl rfl) ?_
        rintro v43 w ⟨ps, ⟨rfl, rfl⟩, hS⟩
        rw [e2]
        refine RL.e (Ef.bsl1 hS rfl) ?_
        rintro _ w ⟨b44, rfl, hS⟩
        try simp (disch := omega) only [cells_int'] at hS
        refine RL.e (Ef.app (k := 4) hS rfl rfl rfl (Src.pt (hS.get 0 rfl) (by exact Nat.le_of_ble_eq_true rfl)) (by omega) (by rfl)) ?_
        intro s45 w hS
        simp only [List.set_cons_succ, List.drop_zero] at hS
        (obtain ⟨sp45, cp45, rfl⟩ := hS.ownForm 4 rfl)
        refine RL.q (Qt.as rfl) ?_
        refine RL.nil ?_
        refine RE.sqN ?_
        refine RC.region rfl ?_
        refine RL.q (Qt.mv rfl) ?_
        refine RL.q (Qt.as rfl) ?_
        refine RL.nil ?_
        refine RE.bkN ?_
        apply RE.lpN (((.nil, ts ++ [x]), (meldF (looseF f a) a nx.root).1, .slice sp45 ((ts.map BT.root).length + 1) cp45))
        case hI =>
          refine ⟨rfl, ?_, hgi', ?_⟩
          · dsimp only
            rw [er, ei]
            exact hS.pick [3, 4, 1, 2, 5] (by decide) rfl
          · dsimp only
            show (ts ++ [x]).length + 0 ≤ _
            rw [List.length_append, List.length_singleton]; omega
        case hs => (repeat (first | exact Sub.nil | refine Sub.cons rfl ?_))
        case hm => exact hlt
end Go.Proofs

/- The heap of deadlines: cut, out, Insert, Change, Delete, Min, Take, Get, Len. -/
namespace Go.Proofs
open Go Go.Gx
variable {oo : World}

set_option maxHeartbeats 4000000 in
theorem phCut (b bl n cap : Nat) (f : PH) (root many x : Int) (hb : Bd n f) (hx : 0 ≤ x ∧ x < n) : Ct Try.prog 106 #[.pointer (some ⟨b, 0, none⟩), .int .i64 x] [pt b (hC bl n cap root many), hT bl n f]
    (fun v ps => v = .tuple #[] ∧ ps = [pt b (hC bl n cap root many), hT bl n (cutF f x)]) := by
  refine Ct.enter Try.func106 rfl (Nat.le_of_ble_eq_true rfl) ?_
  intro oo w R hS
  change RC _ _ _ _ _ _ [(0, _), (1, _)] _
  obtain ⟨c, hc, hS⟩ := hS.tabOpen 1 rfl
  have hsz := hc.size
  have hrx := prR hc hx.1 hx.2
  obtain ⟨hbc, hbn, hbp⟩ := hb x hx.1 hx.2
  refine RC.seq ?_
  refine RC.region rfl ?_
  refine RL.q (Qt.mv rfl) ?_
  refine RL.q (Qt.nil rfl) ?_
  refine RL.q (Qt.fld rfl) ?_
  refine RL.q (Qt.ld rfl (by exact hS.at 0 rfl) (by first  | rfl)) ?_
  refine RL.q (Qt.mv rfl) ?_
  refine RL.q (Qt.ixS rfl rfl (by omega) (by omega)) ?_
  refine RL.q (Qt.ldA rfl (by exact hS.at 1 rfl) (by exact hrx) (by omega)) ?_
  refine RL.e (Ef.alloc hS) ?_
  rintro _ w ⟨b4, rfl, hS⟩
  try simp (disch := omega) only [cells_agg'] at hS
  refine RL.e0 (Ef.st hS 0 rfl rfl rfl (by rfl) (by rfl) (by exact Nat.le_of_ble_eq_true rfl)) ?_
  intro _ w hS
  simp (disch := omega) only [List.set_cons_zero, List.set_cons_succ, cells_agg', Nat.zero_add, wr, List.setIfInBounds_toArray] at hS
  refine RL.nil ?_
  refine RE.sqN ?_
  refine RC.seq ?_
  refine RC.seq ?_
  refine RC.region rfl ?_
  refine RL.q (Qt.fld rfl) ?_
  refine RL.q (Qt.ld rfl (by exact hS.at 0 rfl) (by first  | rfl)) ?_
  refine RL.q (Qt.neq rfl rfl) ?_
  refine RL.nil ?_
  refine RE.sqN ?_
  refine RC.cond rfl (fun h => ?_) (fun h => ?_)
  · skip
    have h : f.prev x ≠ -1 := of_decide_eq_true h
    have hp : 0 ≤ f.prev x ∧ f.prev x < n := by omega
    refine RC.seq ?_
    refine RC.drawn 11 [0, 1, 2, 3, 4, 5, 6, 7, 8, 9, 10] (Same _) (by kernel_rfl) (by kernel_rfl) Same.drew (fun hh => ?_)
    replace hS := hS.drew
    refine RH.q hh (Calm.sq (Calm.sq Calm.body)) rfl (by kernel_rfl) (Qt.mv rfl) ?_
    refine RH.q hh (Calm.sq (Calm.sq Calm.body)) rfl (by kernel_rfl) (Qt.nil rfl) ?_
    refine RH.q hh (Calm.sq (Calm.sq Calm.body)) rfl (by kernel_rfl) (Qt.fld rfl) ?_
    refine RH.q hh (Calm.sq (Calm.sq Calm.body)) rfl (by kernel_rfl) (Qt.ld rfl (by exact hS.at 1 rfl) (by rfl)) ?_
    refine RH.q hh (Calm.sq (Calm.sq Calm.body)) rfl (by kernel_rfl) (Qt.fld rfl) ?_
    refine RH.q hh (Calm.sq (Calm.sq Calm.body)) rfl (by kernel_rfl) (Qt.ld rfl (by exact hS.at 0 rfl) (by rfl)) ?_
    refine RH.q hh (Calm.sq (Calm.sq Calm.body)) rfl (by kernel_rfl) (Qt.ixS rfl rfl (by omega) (by omega)) ?_
    refine RH.q hh (Calm.sq (Calm.sq Calm.body)) rfl (by kernel_rfl) (Qt.fld rfl) ?_
    refine RH.q hh (Calm.sq (Calm.sq Calm.body)) rfl (by kernel_rfl) (Qt.ld rfl (by exact hS.at 2 rfl) (by exact pr2 hc hp.1 hp.2)) ?_
    refine RH.q hh (Calm.sq (Calm.sq Calm.body)) rfl (by kernel_rfl) (Qt.mv rfl) ?_
    refine RH.q hh (Calm.sq (Calm.sq Calm.body)) rfl (by kernel_rfl) (Qt.eql rfl rfl) ?_
    refine RH.done hh (by kernel_rfl) ?_
    refine RL.nil ?_
    refine RE.sqN ?_
    refine RC.cond rfl (fun h2 => ?_) (fun h2 => ?_)
    · skip
      have h2 : f.child (f.prev x) = x := of_decide_eq_true h2
      have hc1 := ps2 hc hp.1 hp.2 (f.next x)
      refine RC.drawn 10 [0, 1, 2, 3, 4, 5, 6, 7, 8, 9] (Same _) (by kernel_rfl) (by kernel_rfl) Same.drew (fun hh => ?_)
      replace hS := hS.drew
      refine RH.q hh (Calm.sq Calm.body) rfl (by kernel_rfl) (Qt.mv rfl) ?_
      refine RH.q hh (Calm.sq Calm.body) rfl (by kernel_rfl) (Qt.nil rfl) ?_
      refine RH.q hh (Calm.sq Calm.body) rfl (by kernel_rfl) (Qt.fld rfl) ?_
      refine RH.q hh (Calm.sq Calm.body) rfl (by kernel_rfl) (Qt.ld rfl (by exact hS.at 1 rfl) (by rfl)) ?_
      refine RH.q hh (Calm.sq Calm.body) rfl (by kernel_rfl) (Qt.fld rfl) ?_
      refine RH.q hh (Calm.sq Calm.body) rfl (by kernel_rfl) (Qt.ld rfl (by exact hS.at 0 rfl) (by rfl)) ?_
      refine RH.q hh (Calm.sq Calm.body) rfl (by kernel_rfl) (Qt.fld rfl) ?_
      refine RH.q hh (Calm.sq Calm.body) rfl (by kernel_rfl) (Qt.ld rfl (by exact hS.at 0 rfl) (by rfl)) ?_
      refine RH.q hh (Calm.sq Calm.body) rfl (by kernel_rfl) (Qt.ixS rfl rfl (by omega) (by omega)) ?_
      refine RH.q hh (Calm.sq Calm.body) rfl (by kernel_rfl) (Qt.fld rfl) ?_
      refine RH.done hh (by kernel_rfl) ?_
      refine RL.e0 (Ef.st hS 2 rfl rfl rfl (by rfl) (by rfl) (by omega)) ?_
      intro _ w hS
      simp (disch := omega) only [List.set_cons_succ, cells_int', Nat.zero_add] at hS
      refine RL.nil ?_
      refine RE.sqN ?_
      refine RC.seq ?_
      refine RC.seq ?_
      refine RC.region rfl ?_
      refine RL.q (Qt.fld rfl) ?_
      refine RL.q (Qt.ld rfl (by exact hS.at 0 rfl) (by rfl)) ?_
      refine RL.q (Qt.neq rfl rfl) ?_
      refine RL.nil ?_
      refine RE.sqN ?_
      refine RC.cond rfl (fun h3 => ?_) (fun h3 => ?_)
      · skip
        have h3 : f.next x ≠ -1 := of_decide_eq_true h3
        have hn : 0 ≤ f.next x ∧ f.next x < n := by omega
        have hc2 := ps4 hc1 hn.1 hn.2 (f.prev x)
        refine RC.drawn 10 [0, 1, 2, 3, 4, 5, 6, 7, 8, 9] (Same _) (by kernel_rfl) (by kernel_rfl) Same.drew (fun hh => ?_)
        replace hS := hS.drew
        refine RH.q hh (Calm.sq Calm.body) rfl (by kernel_rfl) (Qt.mv rfl) ?_
        refine RH.q hh (Calm.sq Calm.body) rfl (by kernel_rfl) (Qt.nil rfl) ?_
        refine RH.q hh (Calm.sq Calm.body) rfl (by kernel_rfl) (Qt.fld rfl) ?_
        refine RH.q hh (Calm.sq Calm.body) rfl (by kernel_rfl) (Qt.ld rfl (by exact hS.at 1 rfl) (by rfl)) ?_
        refine RH.q hh (Calm.sq Calm.body) rfl (by kernel_rfl) (Qt.fld rfl) ?_
        refine RH.q hh (Calm.sq Calm.body) rfl (by kernel_rfl) (Qt.ld rfl (by exact hS.at 0 rfl) (by rfl)) ?_
        refine RH.q hh (Calm.sq Calm.body) rfl (by kernel_rfl) (Qt.fld rfl) ?_
        refine RH.q hh (Calm.sq Calm.body) rfl (by kernel_rfl) (Qt.ld rfl (by exact hS.at 0 rfl) (by rfl)) ?_
        refine RH.q hh (Calm.sq Calm.body) rfl (by kernel_rfl) (Qt.ixS rfl rfl (by omega) (by omega)) ?_
        refine RH.q hh (Calm.sq Calm.body) rfl (by kernel_rfl) (Qt.fld rfl) ?_
        refine RH.done hh (by kernel_rfl) ?_
        refine RL.e0 (Ef.st hS 2 rfl rfl rfl (by rfl) (by rfl) (by (simp only [wr_size]; omega))) ?_
        intro _ w hS
        simp (disch := omega) only [List.set_cons_succ, cells_int', Nat.zero_add] at hS
        refine RL.nil ?_
        refine RE.sqN ?_
        refine RC.region rfl ?_
        refine RL.q (Qt.mv rfl) ?_
        refine RL.q (Qt.mv rfl) ?_
        have hS := (hS.pick [1, 2, 0, 3] (by decide) rfl).tabShut 1 rfl hc2
        refine RL.e (Ef.call hS (phLoose b bl n cap _ root many x hx) rfl rfl Try.call108 [0, 1] [2, 3] (by decide) rfl rfl) ?_
        rintro v61 w ⟨ps, ⟨rfl, rfl⟩, hS⟩
        refine RL.nil ?_
        have e1 : cutF f x = looseF { f with child := upd f.child (f.prev x) (f.next x), prev := upd f.prev (f.next x) (f.prev x) } x := by simp [cutF, h, h2, h3]
        rw [e1]
        exact RE.endB rfl ⟨rfl, rfl⟩ (hS.pick [0, 1, 3] (by decide) rfl)
      · skip
        have h3 : f.next x = -1 := Classical.not_not.1 (of_decide_eq_false h3)
        refine RC.skip ?_
        refine RE.sqN ?_
        refine RC.region rfl ?_
        refine RL.q (Qt.mv rfl) ?_
        refine RL.q (Qt.mv rfl) ?_
        have hS := (hS.pick [1, 2, 0, 3] (by decide) rfl).tabShut 1 rfl hc1
        refine RL.e (Ef.call hS (phLoose b bl n cap _ root many x hx) rfl rfl Try.call108 [0, 1] [2, 3] (by decide) rfl rfl) ?_
        rintro v61 w ⟨ps, ⟨rfl, rfl⟩, hS⟩
        refine RL.nil ?_
        have e1 : cutF f x = looseF { f with child := upd f.child (f.prev x) (f.next x) } x := by simp [cutF, h, h2, h3]
        rw [e1]
        exact RE.endB rfl ⟨rfl, rfl⟩ (hS.pick [0, 1, 3] (by decide) rfl)
    · skip
      have h2 : f.child (f.prev x) ≠ x := of_decide_eq_false h2
      have hc1 := ps3 hc hp.1 hp.2 (f.next x)
      refine RC.drawn 10 [0, 1, 2, 3, 4, 5, 6, 7, 8, 9] (Same _) (by kernel_rfl) (by kernel_rfl) Same.drew (fun hh => ?_)
      replace hS := hS.drew
      refine RH.q hh (Calm.sq Calm.body) rfl (by kernel_rfl) (Qt.mv rfl) ?_
      refine RH.q hh (Calm.sq Calm.body) rfl (by kernel_rfl) (Qt.nil rfl) ?_
      refine RH.q hh (Calm.sq Calm.body) rfl (by kernel_rfl) (Qt.fld rfl) ?_
      refine RH.q hh (Calm.sq Calm.body) rfl (by kernel_rfl) (Qt.ld rfl (by exact hS.at 1 rfl) (by rfl)) ?_
      refine RH.q hh (Calm.sq Calm.body) rfl (by kernel_rfl) (Qt.fld rfl) ?_
      refine RH.q hh (Calm.sq Calm.body) rfl (by kernel_rfl) (Qt.ld rfl (by exact hS.at 0 rfl) (by rfl)) ?_
      refine RH.q hh (Calm.sq Calm.body) rfl (by kernel_rfl) (Qt.fld rfl) ?_
      refine RH.q hh (Calm.sq Calm.body) rfl (by kernel_rfl) (Qt.ld rfl (by exact hS.at 0 rfl) (by rfl)) ?_
      refine RH.q hh (Calm.sq Calm.body) rfl (by kernel_rfl) (Qt.ixS rfl rfl (by omega) (by omega)) ?_
      refine RH.q hh (Calm.sq Calm.body) rfl (by kernel_rfl) (Qt.fld rfl) ?_
      refine RH.done hh (by kernel_rfl) ?_
      refine RL.e0 (Ef.st hS 2 rfl rfl rfl (by rfl) (by rfl) (by omega)) ?_
      intro _ w hS
      simp (disch := omega) only [List.set_cons_succ, cells_int', Nat.zero_add] at hS
      refine RL.nil ?_
      refine RE.sqN ?_
      refine RC.seq ?_
      refine RC.seq ?_
      refine RC.region rfl ?_
      refine RL.q (Qt.fld rfl) ?_
      refine RL.q (Qt.ld rfl (by exact hS.at 0 rfl) (by rfl)) ?_
      refine RL.q (Qt.neq rfl rfl) ?_
      refine RL.nil ?_
      refine RE.sqN ?_
      refine RC.cond rfl (fun h3 => ?_) (fun h3 => ?_)
      · skip
        have h3 : f.next x ≠ -1 := of_decide_eq_true h3
        have hn : 0 ≤ f.next x ∧ f.next x < n := by omega
        have hc2 := ps4 hc1 hn.1 hn.2 (f.prev x)
        refine RC.drawn 10 [0, 1, 2, 3, 4, 5, 6, 7, 8, 9] (Same _) (by kernel_rfl) (by kernel_rfl) Same.drew (fun hh => ?_)
        replace hS := hS.drew
        refine RH.q hh (Calm.sq Calm.body) rfl (by kernel_rfl) (Qt.mv rfl) ?_
        refine RH.q hh (Calm.sq Calm.body) rfl (by kernel_rfl) (Qt.nil rfl) ?_
        refine RH.q hh (Calm.sq Calm.body) rfl (by kernel_rfl) (Qt.fld rfl) ?_
        refine RH.q hh (Calm.sq Calm.body) rfl (by kernel_rfl) (Qt.ld rfl (by exact hS.at 1 rfl) (by rfl)) ?_
        refine RH.q hh (Calm.sq Calm.body) rfl (by kernel_rfl) (Qt.fld rfl) ?_
        refine RH.q hh (Calm.sq Calm.body) rfl (by kernel_rfl) (Qt.ld rfl (by exact hS.at 0 rfl) (by rfl)) ?_
        refine RH.q hh (Calm.sq Calm.body) rfl (by kernel_rfl) (Qt.fld rfl) ?_
        refine RH.q hh (Calm.sq Calm.body) rfl (by kernel_rfl) (Qt.ld rfl (by exact hS.at 0 rfl) (by rfl)) ?_
        refine RH.q hh (Calm.sq Calm.body) rfl (by kernel_rfl) (Qt.ixS rfl rfl (by omega) (by omega)) ?_
        refine RH.q hh (Calm.sq Calm.body) rfl (by kernel_rfl) (Qt.fld rfl) ?_
        refine RH.done hh (by kernel_rfl) ?_
        refine RL.e0 (Ef.st hS 2 rfl rfl rfl (by rfl) (by rfl) (by (simp only [wr_size]; omega))) ?_
        intro _ w hS
        simp (disch := omega) only [List.set_cons_succ, cells_int', Nat.zero_add] at hS
        refine RL.nil ?_
        refine RE.sqN ?_
        refine RC.region rfl ?_
        refine RL.q (Qt.mv rfl) ?_
        refine RL.q (Qt.mv rfl) ?_
        have hS := (hS.pick [1, 2, 0, 3] (by decide) rfl).tabShut 1 rfl hc2
        refine RL.e (Ef.call hS (phLoose b bl n cap _ root many x hx) rfl rfl Try.call108 [0, 1] [2, 3] (by decide) rfl rfl) ?_
        rintro v61 w ⟨ps, ⟨rfl, rfl⟩, hS⟩
        refine RL.nil ?_
        have e1 : cutF f x = looseF { f with next := upd f.next (f.prev x) (f.next x), prev := upd f.prev (f.next x) (f.prev x) } x := by simp [cutF, h, h2, h3]
        rw [e1]
        exact RE.endB rfl ⟨rfl, rfl⟩ (hS.pick [0, 1, 3] (by decide) rfl)
      · skip
        have h3 : f.next x = -1 := Classical.not_not.1 (of_decide_eq_false h3)
        refine RC.skip ?_
        refine RE.sqN ?_
        refine RC.region rfl ?_
        refine RL.q (Qt.mv rfl) ?_
        refine RL.q (Qt.mv rfl) ?_
        have hS := (hS.pick [1, 2, 0, 3] (by decide) rfl).tabShut 1 rfl hc1
        refine RL.e (Ef.call hS (phLoose b bl n cap _ root many x hx) rfl rfl Try.call108 [0, 1] [2, 3] (by decide) rfl rfl) ?_
        rintro v61 w ⟨ps, ⟨rfl, rfl⟩, hS⟩
        refine RL.nil ?_
        have e1 : cutF f x = looseF { f with next := upd f.next (f.prev x) (f.next x) } x := by simp [cutF, h, h2, h3]
        rw [e1]
        exact RE.endB rfl ⟨rfl, rfl⟩ (hS.pick [0, 1, 3] (by decide) rfl)
  · skip
    have h : f.prev x = -1 := Classical.not_not.1 (of_decide_eq_false h)
    refine RC.skip ?_
    refine RE.sqN ?_
    refine RC.seq ?_
    refine RC.seq ?_
    refine RC.region rfl ?_
    refine RL.q (Qt.fld rfl) ?_
    refine RL.q (Qt.ld rfl (by exact hS.at 0 rfl) (by first  | rfl)) ?_
    refine RL.q (Qt.neq rfl rfl) ?_
    refine RL.nil ?_
    refine RE.sqN ?_
    refine RC.cond rfl (fun h3 => ?_) (fun h3 => ?_)
    · skip
      have h3 : f.next x ≠ -1 := of_decide_eq_true h3
      have hn : 0 ≤ f.next x ∧ f.next x < n := by omega
      have hc2 := ps4 hc hn.1 hn.2 (f.prev x)
      refine RC.drawn 10 [0, 1, 2, 3, 4, 5, 6, 7, 8, 9] (Same _) (by kernel_rfl) (by kernel_rfl) Same.drew (fun hh => ?_)
      replace hS := hS.drew
      refine RH.q hh (Calm.sq Calm.body) rfl (by kernel_rfl) (Qt.mv rfl) ?_
      refine RH.q hh (Calm.sq Calm.body) rfl (by kernel_rfl) (Qt.nil rfl) ?_
      refine RH.q hh (Calm.sq Calm.body) rfl (by kernel_rfl) (Qt.fld rfl) ?_
      refine RH.q hh (Calm.sq Calm.body) rfl (by kernel_rfl) (Qt.ld rfl (by exact hS.at 1 rfl) (by first  | rfl)) ?_
      refine RH.q hh (Calm.sq Calm.body) rfl (by kernel_rfl) (Qt.fld rfl) ?_
      refine RH.q hh (Calm.sq Calm.body) rfl (by kernel_rfl) (Qt.ld rfl (by exact hS.at 0 rfl) (by first  | rfl)) ?_
      refine RH.q hh (Calm.sq Calm.body) rfl (by kernel_rfl) (Qt.fld rfl) ?_
      refine RH.q hh (Calm.sq Calm.body) rfl (by kernel_rfl) (Qt.ld rfl (by exact hS.at 0 rfl) (by first  | rfl)) ?_
      refine RH.q hh (Calm.sq Calm.body) rfl (by kernel_rfl) (Qt.ixS rfl rfl (by omega) (by omega)) ?_
      refine RH.q hh (Calm.sq Calm.body) rfl (by kernel_rfl) (Qt.fld rfl) ?_
      refine RH.done hh (by kernel_rfl) ?_
      refine RL.e0 (Ef.st hS 2 rfl rfl rfl (by rfl) (by rfl) (by omega)) ?_
      intro _ w hS
      simp (disch := omega) only [List.set_cons_succ, cells_int', Nat.zero_add] at hS
      refine RL.nil ?_
      refine RE.sqN ?_
      refine RC.region rfl ?_
      refine RL.q (Qt.mv rfl) ?_
      refine RL.q (Qt.mv rfl) ?_
      have hS := (hS.pick [1, 2, 0, 3] (by decide) rfl).tabShut 1 rfl hc2
      refine RL.e (Ef.call hS (phLoose b bl n cap _ root many x hx) rfl rfl Try.call108 [0, 1] [2, 3] (by decide) rfl rfl) ?_
      rintro v61 w ⟨ps, ⟨rfl, rfl⟩, hS⟩
      refine RL.nil ?_
      have e1 : cutF f x = looseF { f with prev := upd f.prev (f.next x) (f.prev x) } x := by simp [cutF, h, h3]
      rw [e1]
      exact RE.endB rfl ⟨rfl, rfl⟩ (hS.pick [0, 1, 3] (by decide) rfl)
    · skip
      have h3 : f.next x = -1 := Classical.not_not.1 (of_decide_eq_false h3)
      refine RC.skip ?_
      refine RE.sqN ?_
      refine RC.region rfl ?_
      refine RL.q (Qt.mv rfl) ?_
      refine RL.q (Qt.mv rfl) ?_
      have hS := (hS.pick [1, 2, 0, 3] (by decide) rfl).tabShut 1 rfl hc
      refine RL.e (Ef.call hS (phLoose b bl n cap _ root many x hx) rfl rfl Try.call108 [0, 1] [2, 3] (by decide) rfl rfl) ?_
      rintro v61 w ⟨ps, ⟨rfl, rfl⟩, hS⟩
      refine RL.nil ?_
      have e1 : cutF f x = looseF f x := by simp [cutF, h, h3]
      rw [e1]
      exact RE.endB rfl ⟨rfl, rfl⟩ (hS.pick [0, 1, 3] (by decide) rfl)

/-- What is left, and the children, of one that is taken out. -/
theorem out_parts {n : Nat} {l : List PItem} {f : PH} {root many : Int} {t : BT} {id : Int} (h : HI n l f root many t) (hid : id ∈ pIds l) :
    (id = root ∧ Tr f .nil ∧ t.ids.Perm (BT.nil.ids ++ id :: (t.kids id).ids) ∧ f.child id = (t.kids id).root ∧ Rep f id (t.kids id) ∧ Ord f (t.kids id)) ∨
    (id ≠ root ∧ Tr (cutF f id) (t.cut id) ∧ t.ids.Perm ((t.cut id).ids ++ id :: (t.kids id).ids) ∧ (cutF f id).child id = (t.kids id).root ∧ Rep (cutF f id) id (t.kids id) ∧ Ord (cutF f id) (t.kids id) ∧ (cutF f id).it = f.it ∧ (cutF f id).there = f.there ∧ (t.cut id).root = root) := by
  have hm : id ∈ t.ids := h.ids.mem_iff.2 hid
  have hnd := h.tnd
  have hp := BT.cut_ids hm hnd
  obtain ⟨a1, a2, a3, a4⟩ := Rep.at h.tr.rep hm hnd
  by_cases e : id = root
  · refine .inl ⟨e, Tr.nil, ?_, a1, a2, h.tr.ord.kids⟩
    have hc : t.cut id = .nil := by
      rw [h.root] at e
      have hone := h.tr.one
      cases t with
      | nil => simp [BT.ids] at hm
      | node i c nx =>
        have : i = id := e.symm
        subst this
        cases nx with
        | nil => exact if_pos rfl
        | node _ _ _ => exact hone.elim
    rw [hc] at hp; exact hp
  · have hr : t.root ≠ id := fun e2 => e (by rw [h.root, e2])
    rcases a3 with ⟨b, _⟩ | ⟨_, b⟩
    · exact absurd b hr
    · have hnd2 := hp.nodup_iff.1 hnd
      rw [List.nodup_append, List.nodup_cons] at hnd2
      obtain ⟨n1, ⟨n2, n3⟩, n4⟩ := hnd2
      have hp0 : f.prev id ≠ -1 := by
        have := h.tr.nn _ (BT.cut_sub b); omega
      obtain ⟨c1, c2⟩ := cut_rep (cut_is hp0) rfl rfl h.tr.rep hm hnd h.tr.nn hr
      have hmv := cut_mv hp0
      have hone : (t.cut id).single := by
        have h1 := h.tr.one
        cases t with
        | nil => trivial
        | node i c nx =>
          have hi : ¬ i = id := hr
          rw [BT.cut, if_neg hi]
          cases nx with
          | nil => trivial
          | node _ _ _ => exact h1.elim
      refine .inr ⟨e, ⟨c1, hone, h.tr.ord.cut.it hmv.it, fun i hi => h.tr.nn i (BT.cut_sub hi)⟩, hp, ?_, a2.mv hmv fun i hi e2 => ?_, h.tr.ord.kids.it hmv.it, hmv.it, hmv.there, by rw [c2, h.root]⟩
      · rw [(cut_is hp0).child, if_neg, a1]
        rintro ⟨e2, e3⟩
        exact n4 _ b id (by simp) e2.symm
      · simp only [List.mem_cons, List.not_mem_nil, or_false] at e2
        rcases e2 with rfl | rfl | rfl
        · exact n2 hi
        · exact n4 _ b _ (by simp [hi]) rfl
        · rcases a4 with a4 | a4
          · have := h.tr.nn (f.next id) (hp.mem_iff.2 (by simp [hi])); omega
          · exact n4 _ a4 _ (by simp [hi]) rfl

theorem hT_child {w : World} {L : List HP} {bl n : Nat} {f : PH} (hS : Sat oo w L) (k : Nat) (hk : L[k]? = some (hT bl n f)) {i x : Int} (h : 0 ≤ i ∧ i < n) (hx : f.child i = x) :
    ∃ c T fz, w.heap[bl]? = some (.cells c T fz) ∧ c.toList[0 + i.toNat * 6 + 2]? = some (.int .i64 x) := by
  obtain ⟨c, hc, hS⟩ := hS.tabOpen k hk
  have hlt : k < L.length := (List.getElem?_eq_some_iff.1 hk).1
  exact ⟨c, _, _, hS.get k (List.getElem?_set_self hlt), by rw [← hx]; exact pr2 hc h.1 h.2⟩

theorem out_facts {n : Nat} {l : List PItem} {f g f2 : PH} {root many : Int} {t u k g2 : BT} {id x : Int} (h : HI n l f root many t) (hid : id ∈ pIds l) (hu : Tr g u) (hperm : t.ids.Perm (u.ids ++ id :: k.ids)) (hch : g.child id = x)
    (hfg : ∀ i, g.it i = f.it i) (hth : g.there = f.there) (hn : 1 ≤ n) (hg : Gth n g f2 k g2) :
    (-1 ≤ g2.root ∧ g2.root < n) ∧ f2.child id = x ∧ (meldF f2 u.root g2.root).1.child id = x ∧ HI n (pout l id) (zeroF (meldF f2 u.root g2.root).1 id) (meldF f2 u.root g2.root).2 (many - 1) (meldT f2 u g2) := by
  have hmv : Mv g f2 g2.ids := hg.mv.mono fun i hi => hg.perm.mem_iff.2 hi
  have hperm2 : t.ids.Perm (u.ids ++ id :: g2.ids) := hperm.trans ((List.perm_append_left_iff _).2 ((hg.perm.symm).cons id))
  have hnd : (u.ids ++ id :: g2.ids).Nodup := hperm2.nodup_iff.1 h.tnd
  have hnd1 : (id :: (u.ids ++ g2.ids)).Nodup := (List.perm_middle.nodup_iff).1 hnd
  rw [List.nodup_cons] at hnd1
  obtain ⟨hnot, hnd2⟩ := hnd1
  have hu' : Tr f2 u := hu.mv hmv fun i hi e => by
    rw [List.nodup_append] at hnd2
    exact hnd2.2.2 i hi i e rfl
  obtain ⟨_, _, _, m4⟩ := meld_tr hu' hg.tr hnd2
  have h1 : f2.child id = x := (hmv.child id fun e => hnot (List.mem_append.2 (.inr e))).trans hch
  refine ⟨?_, h1, (m4.child id hnot).trans h1, h.out hid hu hg.tr hfg hth hmv hperm2 hg.bd hn⟩
  rcases g2.root_mem with ⟨e, _⟩ | e
  · omega
  · obtain ⟨y, hy, e⟩ := List.mem_map.1 (h.ids.mem_iff.1 (hperm2.mem_iff.2 (List.mem_append.2 (.inr (List.mem_cons.2 (.inr e))))))
    have := h.range y hy
    omega

set_option maxHeartbeats 4000000 in
theorem phOut (p : Value) (n : Nat) (l : List PItem) (id : Int) (hid : id ∈ pIds l) : Ct Try.prog 103 #[p, .int .i64 id] [hO p n l] (fun v ps => v = .tuple #[] ∧ ps = [hO p n (pout l id)]) := by
  refine Ct.enter Try.func103 rfl (Nat.le_of_ble_eq_true rfl) ?_
  intro oo w R hS
  change RC _ _ _ _ _ _ [(0, _), (1, _)] _
  obtain ⟨f, root, many, tr, b, bl, cap, rfl, hi, hn1, hn2, hS⟩ := hO_open hS
  obtain ⟨y, hy, hyid⟩ := List.mem_map.1 hid
  have hrg := hi.range y hy
  rw [hyid] at hrg
  have hlen := hi.lenLe
  have hmany := hi.many
  have hnd := hi.tnd
  have hknd : ∀ {u : BT}, tr.ids.Perm (u.ids ++ id :: (tr.kids id).ids) → (tr.kids id).ids.Nodup ∧ ∀ i ∈ (tr.kids id).ids, 0 ≤ i ∧ i < n := fun {u} hp => by
    have h1 := hp.nodup_iff.1 hnd
    rw [List.nodup_append, List.nodup_cons] at h1
    refine ⟨h1.2.1.2, fun i hi' => ?_⟩
    obtain ⟨z, hz, e⟩ := List.mem_map.1 (hi.ids.mem_iff.1 (hp.mem_iff.2 (List.mem_append.2 (.inr (List.mem_cons.2 (.inr hi'))))))
    have := hi.range z hz
    omega
  refine RC.seq ?_
  refine RC.seq ?_
  refine RC.region rfl ?_
  refine RL.q (Qt.mv rfl) ?_
  refine RL.q (Qt.mv rfl) ?_
  refine RL.q (Qt.nil rfl) ?_
  refine RL.q (Qt.fld rfl) ?_
  refine RL.q (Qt.ld rfl (by exact hS.at 0 rfl) (by first  | rfl)) ?_
  refine RL.q (Qt.eql rfl rfl) ?_
  refine RL.nil ?_
  refine RE.sqN ?_
  refine RC.cond rfl (fun h => ?_) (fun h => ?_)
  · skip
    have h : id = root := of_decide_eq_true h
    rcases out_parts hi hid with ⟨_, g1, g2', g3, g4, g5⟩ | ⟨g, _⟩
    case inr => exact absurd h g
    have hub : -1 ≤ BT.nil.root ∧ BT.nil.root < (n : Int) := by simp only [BT.root]; omega
    obtain ⟨k1, k2⟩ := hknd g2'
    have hfact := fun {f2 : PH} {g2 : BT} => out_facts (f2 := f2) (g2 := g2) hi hid g1 g2' g3 (fun _ => rfl) rfl hn1
    refine RC.region rfl ?_
    refine RL.q (Qt.mv rfl) ?_
    refine RL.q (Qt.nil rfl) ?_
    refine RL.q (Qt.fld rfl) ?_
    refine RL.e0 (Ef.st hS 0 rfl rfl rfl (by rfl) (by rfl) (by exact Nat.le_of_ble_eq_true rfl)) ?_
    intro _ w hS
    simp (disch := omega) only [List.set_cons_zero, List.set_cons_succ, cells_int', Nat.zero_add, wr, List.setIfInBounds_toArray] at hS
    refine RL.nil ?_
    refine RE.sqN ?_
    refine RC.seq ?_
    refine RC.drawn 17 [0, 1, 2, 3, 4, 5, 6, 7, 8, 9, 10, 11, 12, 13, 14, 15, 16] (fun w' => w'.heap[b]? = some (hC bl n cap (BT.nil).root many) ∧ ∃ c T fz, w'.heap[bl]? = some (.cells c T fz) ∧ c.toList[0 + id.toNat * 6 + 2]? = some (.int .i64 (tr.kids id).root)) (by kernel_rfl) (by kernel_rfl) (by exact ⟨hS.drew.get 0 rfl, hT_child hS.drew 1 rfl hrg g3⟩) (fun hh => ?_)
    replace hS := hS.drew
    refine RH.q hh (Calm.sq Calm.body) rfl (by kernel_rfl) (Qt.mv rfl) ?_
    refine RH.q hh (Calm.sq Calm.body) rfl (by kernel_rfl) (Qt.mv rfl) ?_
    refine RH.q hh (Calm.sq Calm.body) rfl (by kernel_rfl) (Qt.mv rfl) ?_
    refine RH.q hh (Calm.sq Calm.body) rfl (by kernel_rfl) (Qt.nil rfl) ?_
    refine RH.q hh (Calm.sq Calm.body) rfl (by kernel_rfl) (Qt.fld rfl) ?_
    refine RH.q hh (Calm.sq Calm.body) rfl (by kernel_rfl) ((by exact Qt.ld rfl (fun _ h => h.1) (by first  | rfl))) ?_
    refine RH.q hh (Calm.sq Calm.body) rfl (by kernel_rfl) (Qt.mv rfl) ?_
    refine RH.q hh (Calm.sq Calm.body) rfl (by kernel_rfl) (Qt.mv rfl) ?_
    refine RH.q hh (Calm.sq Calm.body) rfl (by kernel_rfl) (Qt.nil rfl) ?_
    refine RH.q hh (Calm.sq Calm.body) rfl (by kernel_rfl) (Qt.fld rfl) ?_
    refine RH.q hh (Calm.sq Calm.body) rfl (by kernel_rfl) ((by exact Qt.ld rfl (fun _ h => h.1) (by first  | rfl))) ?_
    refine RH.q hh (Calm.sq Calm.body) rfl (by kernel_rfl) (Qt.mv rfl) ?_
    refine RH.q hh (Calm.sq Calm.body) rfl (by kernel_rfl) (Qt.ixS rfl rfl (by omega) (by omega)) ?_
    refine RH.q hh (Calm.sq Calm.body) rfl (by kernel_rfl) (Qt.fld rfl) ?_
    refine RH.q hh (Calm.sq Calm.body) rfl (by kernel_rfl) ((by exact Qt.ldE rfl (fun _ h => h.2))) ?_
    refine RH.e hh rfl (by kernel_rfl) (Ef.call hS (phGather b bl n cap (f) (-1) many (tr.kids id) hi.bd hn2 ⟨id, g4⟩ g5 k1 k2) rfl rfl Try.call107 [0, 1] [2] (by decide) rfl rfl) ?_
    rintro v31 w ⟨ps, ⟨f2, g2, rfl, hg2, rfl⟩, hS⟩
    refine ⟨(by exact ⟨hS.get 0 rfl, hT_child hS 1 rfl hrg (hfact hg2).2.1⟩), ?_⟩
    refine RH.e hh rfl (by kernel_rfl) (Ef.call hS (phMeld b bl n cap f2 (-1) many (BT.nil).root g2.root hg2.bd hub (hfact hg2).1) rfl rfl Try.call100 [0, 1] [2] (by decide) rfl rfl) ?_
    rintro v32 w ⟨ps, ⟨rfl, rfl⟩, hS⟩
    refine ⟨(by exact ⟨hS.get 0 rfl, hT_child hS 1 rfl hrg (hfact hg2).2.1⟩), ?_⟩
    refine RH.done hh (by kernel_rfl) ?_
    obtain ⟨c, hc, hS⟩ := hS.tabOpen 1 rfl
    try simp only [List.set_cons_zero, List.set_cons_succ] at hS
    have hsz := hc.size
    have hcz := psZ hc hrg.1 hrg.2
    refine RL.q (Qt.nil rfl) ?_
    refine RL.q (Qt.fld rfl) ?_
    refine RL.e0 (Ef.st hS 0 rfl rfl rfl (by rfl) (by rfl) (by exact Nat.le_of_ble_eq_true rfl)) ?_
    intro _ w hS
    simp (disch := omega) only [cells_int', Nat.zero_add] at hS
    refine RL.nil ?_
    refine RE.sqN ?_
    refine RC.seq ?_
    refine RC.region rfl ?_
    refine RL.q (Qt.mv rfl) ?_
    refine RL.q (Qt.nil rfl) ?_
    refine RL.q (Qt.fld rfl) ?_
    refine RL.q (Qt.ld rfl (by exact hS.at 0 rfl) (by first  | rfl)) ?_
    refine RL.q (Qt.mv rfl) ?_
    refine RL.q (Qt.bldV [.const (Go.Value.agg #[(Go.Value.int Go.IntKind.u64 0), (Go.Value.int Go.IntKind.u64 0)]), .const (Go.Value.int Go.IntKind.i64 0), .const (Go.Value.int Go.IntKind.i64 0), .const (Go.Value.int Go.IntKind.i64 0), .const (Go.Value.bool false)] rfl rfl (by kernel_rfl)) ?_
    refine RL.q (Qt.ixS rfl rfl (by omega) (by omega)) ?_
    refine RL.e0 (Ef.st hS 1 rfl rfl rfl (by rfl) (by rfl) (by omega)) ?_
    intro _ w hS
    simp (disch := omega) only [cells_agg', Nat.zero_add] at hS
    refine RL.nil ?_
    refine RE.sqN ?_
    refine RC.region rfl ?_
    refine RL.q (Qt.mv rfl) ?_
    refine RL.q (Qt.nil rfl) ?_
    refine RL.q (Qt.fld rfl) ?_
    refine RL.q (Qt.ld rfl (by exact hS.at 0 rfl) (by first  | rfl)) ?_
    refine RL.q ((by exact Qt.subI rfl rfl (by dsimp only [inK]; omega))) ?_
    refine RL.q (Qt.nil rfl) ?_
    refine RL.q (Qt.fld rfl) ?_
    refine RL.e0 (Ef.st hS 0 rfl rfl rfl (by rfl) (by rfl) (by exact Nat.le_of_ble_eq_true rfl)) ?_
    intro _ w hS
    simp (disch := omega) only [cells_int', Nat.zero_add] at hS
    refine RL.nil ?_
    exact RE.endB rfl ⟨rfl, rfl⟩ (hO_shut (hfact hg2).2.2.2 hn1 hn2 (hS.tabShut 1 rfl hcz))
  · skip
    have h : id ≠ root := of_decide_eq_false h
    rcases out_parts hi hid with ⟨g, _⟩ | ⟨_, g1, g2', g3, g4, g5, g6, g7, g8⟩
    case inl => exact absurd g h
    have hub : -1 ≤ (tr.cut id).root ∧ (tr.cut id).root < (n : Int) := by
      rcases (tr.cut id).root_mem with ⟨e, _⟩ | e
      · omega
      · obtain ⟨z, hz, e⟩ := List.mem_map.1 (hi.ids.mem_iff.1 (BT.cut_sub e))
        have := hi.range z hz
        omega
    rw [← g8] at hS
    refine RC.region rfl ?_
    refine RL.q (Qt.mv rfl) ?_
    refine RL.q (Qt.mv rfl) ?_
    refine RL.e (Ef.call hS (phCut b bl n cap f _ many id hi.bd hrg) rfl rfl Try.call106 [0, 1] [2] (by decide) rfl rfl) ?_
    rintro v15 w ⟨ps, ⟨rfl, rfl⟩, hS⟩
    obtain ⟨k1, k2⟩ := hknd g2'
    have hfact := fun {f2 : PH} {g2 : BT} => out_facts (f2 := f2) (g2 := g2) hi hid g1 g2' g3 (fun i => congrFun g6 i) g7 hn1
    refine RL.nil ?_
    refine RE.sqN ?_
    refine RC.seq ?_
    refine RC.drawn 17 [0, 1, 2, 3, 4, 5, 6, 7, 8, 9, 10, 11, 12, 13, 14, 15, 16] (fun w' => w'.heap[b]? = some (hC bl n cap (tr.cut id).root many) ∧ ∃ c T fz, w'.heap[bl]? = some (.cells c T fz) ∧ c.toList[0 + id.toNat * 6 + 2]? = some (.int .i64 (tr.kids id).root)) (by kernel_rfl) (by kernel_rfl) (by exact ⟨hS.drew.get 0 rfl, hT_child hS.drew 1 rfl hrg g3⟩) (fun hh => ?_)
    replace hS := hS.drew
    refine RH.q hh (Calm.sq Calm.body) rfl (by kernel_rfl) (Qt.mv rfl) ?_
    refine RH.q hh (Calm.sq Calm.body) rfl (by kernel_rfl) (Qt.mv rfl) ?_
    refine RH.q hh (Calm.sq Calm.body) rfl (by kernel_rfl) (Qt.mv rfl) ?_
    refine RH.q hh (Calm.sq Calm.body) rfl (by kernel_rfl) (Qt.nil rfl) ?_
    refine RH.q hh (Calm.sq Calm.body) rfl (by kernel_rfl) (Qt.fld rfl) ?_
    refine RH.q hh (Calm.sq Calm.body) rfl (by kernel_rfl) ((by exact Qt.ld rfl (fun _ h => h.1) (by first  | rfl))) ?_
    refine RH.q hh (Calm.sq Calm.body) rfl (by kernel_rfl) (Qt.mv rfl) ?_
    refine RH.q hh (Calm.sq Calm.body) rfl (by kernel_rfl) (Qt.mv rfl) ?_
    refine RH.q hh (Calm.sq Calm.body) rfl (by kernel_rfl) (Qt.nil rfl) ?_
    refine RH.q hh (Calm.sq Calm.body) rfl (by kernel_rfl) (Qt.fld rfl) ?_
    refine RH.q hh (Calm.sq Calm.body) rfl (by kernel_rfl) ((by exact Qt.ld rfl (fun _ h => h.1) (by first  | rfl))) ?_
    refine RH.q hh (Calm.sq Calm.body) rfl (by kernel_rfl) (Qt.mv rfl) ?_
    refine RH.q hh (Calm.sq Calm.body) rfl (by kernel_rfl) (Qt.ixS rfl rfl (by omega) (by omega)) ?_
    refine RH.q hh (Calm.sq Calm.body) rfl (by kernel_rfl) (Qt.fld rfl) ?_
    refine RH.q hh (Calm.sq Calm.body) rfl (by kernel_rfl) ((by exact Qt.ldE rfl (fun _ h => h.2))) ?_
    refine RH.e hh rfl (by kernel_rfl) (Ef.call hS (phGather b bl n cap (cutF f id) (tr.cut id).root many (tr.kids id) (hi.bd.cut hrg) hn2 ⟨id, g4⟩ g5 k1 k2) rfl rfl Try.call107 [0, 1] [2] (by decide) rfl rfl) ?_
    rintro v31 w ⟨ps, ⟨f2, g2, rfl, hg2, rfl⟩, hS⟩
    refine ⟨(by exact ⟨hS.get 0 rfl, hT_child hS 1 rfl hrg (hfact hg2).2.1⟩), ?_⟩
    refine RH.e hh rfl (by kernel_rfl) (Ef.call hS (phMeld b bl n cap f2 (tr.cut id).root many (tr.cut id).root g2.root hg2.bd hub (hfact hg2).1) rfl rfl Try.call100 [0, 1] [2] (by decide) rfl rfl) ?_
    rintro v32 w ⟨ps, ⟨rfl, rfl⟩, hS⟩
    refine ⟨(by exact ⟨hS.get 0 rfl, hT_child hS 1 rfl hrg (hfact hg2).2.2.1⟩), ?_⟩
    refine RH.done hh (by kernel_rfl) ?_
    obtain ⟨c, hc, hS⟩ := hS.tabOpen 1 rfl
    try simp only [List.set_cons_zero, List.set_cons_succ] at hS
    have hsz := hc.size
    have hcz := psZ hc hrg.1 hrg.2
    refine RL.q (Qt.nil rfl) ?_
    refine RL.q (Qt.fld rfl) ?_
    refine RL.e0 (Ef.st hS 0 rfl rfl rfl (by rfl) (by rfl) (by exact Nat.le_of_ble_eq_true rfl)) ?_
    intro _ w hS
    simp (disch := omega) only [cells_int', Nat.zero_add] at hS
    refine RL.nil ?_
    refine RE.sqN ?_
    refine RC.seq ?_
    refine RC.region rfl ?_
    refine RL.q (Qt.mv rfl) ?_
    refine RL.q (Qt.nil rfl) ?_
    refine RL.q (Qt.fld rfl) ?_
    refine RL.q (Qt.ld rfl (by exact hS.at 0 rfl) (by first  | rfl)) ?_
    refine RL.q (Qt.mv rfl) ?_
    refine RL.q (Qt.bldV [.const (Go.Value.agg #[(Go.Value.int Go.IntKind.u64 0), (Go.Value.int Go.IntKind.u64 0)]), .const (Go.Value.int Go.IntKind.i64 0), .const (Go.Value.int Go.IntKind.i64 0), .const (Go.Value.int Go.IntKind.i64 0), .const (Go.Value.bool false)] rfl rfl (by kernel_rfl)) ?_
    refine RL.q (Qt.ixS rfl rfl (by omega) (by omega)) ?_
    refine RL.e0 (Ef.st hS 1 rfl rfl rfl (by rfl) (by rfl) (by omega)) ?_
    intro _ w hS
    simp (disch := omega) only [cells_agg', Nat.zero_add] at hS
    refine RL.nil ?_
    refine RE.sqN ?_
    refine RC.region rfl ?_
    refine RL.q (Qt.mv rfl) ?_
    refine RL.q (Qt.nil rfl) ?_
    refine RL.q (Qt.fld rfl) ?_
    refine RL.q (Qt.ld rfl (by exact hS.at 0 rfl) (by first  | rfl)) ?_
    refine RL.q ((by exact Qt.subI rfl rfl (by dsimp only [inK]; omega))) ?_
    refine RL.q (Qt.nil rfl) ?_
    refine RL.q (Qt.fld rfl) ?_
    refine RL.e0 (Ef.st hS 0 rfl rfl rfl (by rfl) (by rfl) (by exact Nat.le_of_ble_eq_true rfl)) ?_
    intro _ w hS
    simp (disch := omega) only [cells_int', Nat.zero_add] at hS
    refine RL.nil ?_
    exact RE.endB rfl ⟨rfl, rfl⟩ (hO_shut (hfact hg2).2.2.2 hn1 hn2 (hS.tabShut 1 rfl hcz))
end Go.Proofs

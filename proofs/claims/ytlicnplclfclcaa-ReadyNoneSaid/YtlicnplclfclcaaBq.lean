/- The queue of levels in memory: its cells, and what its functions read and write. -/
import Derived.Test.YtlicnplclfclcaaBqL
import Derived.Test.YtlicnplclfclcaaGxT
namespace Go.Proofs
open Go Go.Gx
variable {oo : World}

theorem wr1_get {c : Array Value} {k : Nat} (hk : k < c.size) (v : Value) (i : Nat) : (wr c k [v]).toList[i]? = if i = k then some v else c.toList[i]? := by
  have := wr_get [v] c k i (by simp only [List.length_singleton]; omega)
  rw [Array.getElem?_toList, this]
  by_cases h : i = k
  · subst h; simp
  · rw [if_neg (by simp only [List.length_singleton]; omega), if_neg h, Array.getElem?_toList]

structure QC (first last W : Int → Int) (many : Int) (s : Value) (c : Array Value) : Prop where
  size : c.size = 518
  links : c.toList[0]? = some s
  first : ∀ v : Int, 0 ≤ v → v ≤ 255 → c.toList[0 + 1 + v.toNat * 1]? = some (.int .i64 (first v))
  last : ∀ v : Int, 0 ≤ v → v ≤ 255 → c.toList[0 + 257 + v.toNat * 1]? = some (.int .i64 (last v))
  mask : ∀ i : Int, 0 ≤ i → i < 4 → c.toList[0 + 513 + i.toNat * 1]? = some (.int .u64 (W i))
  many : c.toList[517]? = some (.int .i64 many)

theorem QC.setFirst {first last W : Int → Int} {many : Int} {s : Value} {c : Array Value} (h : QC first last W many s c) {v : Int} (h0 : 0 ≤ v) (h1 : v ≤ 255) (x : Int) : QC (upd first v x) last W many s (wr c (1 + v.toNat * 1) [.int .i64 x]) := by
  have hs := h.size
  have hg := wr1_get (c := c) (k := 1 + v.toNat * 1) (by omega) (.int .i64 x)
  refine ⟨by rw [wr_size]; exact hs, ?_, ?_, ?_, ?_, ?_⟩
  · rw [hg, if_neg (by omega)]; exact h.links
  · intro u g0 g1
    rw [hg]
    by_cases e : u = v
    · subst e; rw [if_pos (by omega), upd_same]
    · rw [if_neg (by omega), upd_ne _ _ e]; exact h.first u g0 g1
  · intro u g0 g1; rw [hg, if_neg (by omega)]; exact h.last u g0 g1
  · intro u g0 g1; rw [hg, if_neg (by omega)]; exact h.mask u g0 g1
  · rw [hg, if_neg (by omega)]; exact h.many
theorem QC.setLast {first last W : Int → Int} {many : Int} {s : Value} {c : Array Value} (h : QC first last W many s c) {v : Int} (h0 : 0 ≤ v) (h1 : v ≤ 255) (x : Int) : QC first (upd last v x) W many s (wr c (257 + v.toNat * 1) [.int .i64 x]) := by
  have hs := h.size
  have hg := wr1_get (c := c) (k := 257 + v.toNat * 1) (by omega) (.int .i64 x)
  refine ⟨by rw [wr_size]; exact hs, ?_, ?_, ?_, ?_, ?_⟩
  · rw [hg, if_neg (by omega)]; exact h.links
  · intro u g0 g1; rw [hg, if_neg (by omega)]; exact h.first u g0 g1
  · intro u g0 g1
    rw [hg]
    by_cases e : u = v
    · subst e; rw [if_pos (by omega), upd_same]
    · rw [if_neg (by omega), upd_ne _ _ e]; exact h.last u g0 g1
  · intro u g0 g1; rw [hg, if_neg (by omega)]; exact h.mask u g0 g1
  · rw [hg, if_neg (by omega)]; exact h.many
theorem QC.setMask {first last W : Int → Int} {many : Int} {s : Value} {c : Array Value} (h : QC first last W many s c) {i : Int} (h0 : 0 ≤ i) (h1 : i < 4) (x : Int) : QC first last (upd W i x) many s (wr c (513 + i.toNat * 1) [.int .u64 x]) := by
  have hs := h.size
  have hg := wr1_get (c := c) (k := 513 + i.toNat * 1) (by omega) (.int .u64 x)
  refine ⟨by rw [wr_size]; exact hs, ?_, ?_, ?_, ?_, ?_⟩
  · rw [hg, if_neg (by omega)]; exact h.links
  · intro u g0 g1; rw [hg, if_neg (by omega)]; exact h.first u g0 g1
  · intro u g0 g1; rw [hg, if_neg (by omega)]; exact h.last u g0 g1
  · intro u g0 g1
    rw [hg]
    by_cases e : u = i
    · subst e; rw [if_pos (by omega), upd_same]
    · rw [if_neg (by omega), upd_ne _ _ e]; exact h.mask u g0 g1
  · rw [hg, if_neg (by omega)]; exact h.many
theorem QC.setMany {first last W : Int → Int} {many : Int} {s : Value} {c : Array Value} (h : QC first last W many s c) (x : Int) : QC first last W x s (wr c 517 [.int .i64 x]) := by
  have hs := h.size
  have hg := wr1_get (c := c) (k := 517) (by omega) (.int .i64 x)
  refine ⟨by rw [wr_size]; exact hs, ?_, ?_, ?_, ?_, ?_⟩
  · rw [hg, if_neg (by omega)]; exact h.links
  · intro u g0 g1; rw [hg, if_neg (by omega)]; exact h.first u g0 g1
  · intro u g0 g1; rw [hg, if_neg (by omega)]; exact h.last u g0 g1
  · intro u g0 g1; rw [hg, if_neg (by omega)]; exact h.mask u g0 g1
  · rw [hg, if_pos rfl]
theorem QC.setLinks {first last W : Int → Int} {many : Int} {s : Value} {c : Array Value} (h : QC first last W many s c) (x : Value) : QC first last W many x (wr c 0 [x]) := by
  have hs := h.size
  have hg := wr1_get (c := c) (k := 0) (by omega) x
  refine ⟨by rw [wr_size]; exact hs, ?_, ?_, ?_, ?_, ?_⟩
  · rw [hg, if_pos rfl]
  · intro u g0 g1; rw [hg, if_neg (by omega)]; exact h.first u g0 g1
  · intro u g0 g1; rw [hg, if_neg (by omega)]; exact h.last u g0 g1
  · intro u g0 g1; rw [hg, if_neg (by omega)]; exact h.mask u g0 g1
  · rw [hg, if_neg (by omega)]; exact h.many
theorem QC.words {first last W : Int → Int} {many : Int} {s : Value} {c : Array Value} (h : QC first last W many s c) : c.extract (0 + 513) (0 + 513 + 4) = #[.int .u64 (W 0), .int .u64 (W 1), .int .u64 (W 2), .int .u64 (W 3)] := by
  have hs := h.size
  apply Array.ext'
  apply List.ext_getElem?
  intro i
  simp only [Array.toList_extract, List.extract_eq_take_drop]
  rw [List.getElem?_take, List.getElem?_drop]
  match i with
  | 0 => have := h.mask 0 (by omega) (by omega); simpa using this
  | 1 => have := h.mask 1 (by omega) (by omega); simpa using this
  | 2 => have := h.mask 2 (by omega) (by omega); simpa using this
  | 3 => have := h.mask 3 (by omega) (by omega); simpa using this
  | i + 4 => rw [if_neg (by omega)]; simp

theorem QC.congr {first last first' last' W : Int → Int} {many : Int} {s : Value} {c : Array Value} (h : QC first last W many s c) (h1 : ∀ v, 0 ≤ v → v ≤ 255 → first' v = first v) (h2 : ∀ v, 0 ≤ v → v ≤ 255 → last' v = last v) : QC first' last' W many s c :=
  ⟨h.size, h.links, fun v a b => by rw [h1 v a b]; exact h.first v a b, fun v a b => by rw [h2 v a b]; exact h.last v a b, h.mask, h.many⟩

structure LA (ahead behind lv : Int → Int) (there : Int → Bool) (n : Nat) (c : Array Value) : Prop where
  size : n * 4 ≤ c.size
  ahead : ∀ i : Int, 0 ≤ i → i < n → c.toList[0 + i.toNat * 4 + 0]? = some (.int .i64 (ahead i))
  behind : ∀ i : Int, 0 ≤ i → i < n → c.toList[0 + i.toNat * 4 + 1]? = some (.int .i64 (behind i))
  lv : ∀ i : Int, 0 ≤ i → i < n → c.toList[0 + i.toNat * 4 + 2]? = some (.int .u8 (lv i))
  there : ∀ i : Int, 0 ≤ i → i < n → c.toList[0 + i.toNat * 4 + 3]? = some (.bool (there i))

theorem LA.setAhead {ahead behind lv : Int → Int} {there : Int → Bool} {n : Nat} {c : Array Value} (h : LA ahead behind lv there n c) {i : Int} (h0 : 0 ≤ i) (h1 : i < n) (x : Int) : LA (upd ahead i x) behind lv there n (wr c (i.toNat * 4) [.int .i64 x]) := by
  have hs := h.size
  have hg := wr1_get (c := c) (k := i.toNat * 4) (by omega) (.int .i64 x)
  refine ⟨by rw [wr_size]; exact hs, ?_, ?_, ?_, ?_⟩
  · intro u g0 g1
    rw [hg]
    by_cases e : u = i
    · subst e; rw [if_pos (by omega), upd_same]
    · rw [if_neg (by omega), upd_ne _ _ e]; exact h.ahead u g0 g1
  · intro u g0 g1; rw [hg, if_neg (by omega)]; exact h.behind u g0 g1
  · intro u g0 g1; rw [hg, if_neg (by omega)]; exact h.lv u g0 g1
  · intro u g0 g1; rw [hg, if_neg (by omega)]; exact h.there u g0 g1
theorem LA.setBehind {ahead behind lv : Int → Int} {there : Int → Bool} {n : Nat} {c : Array Value} (h : LA ahead behind lv there n c) {i : Int} (h0 : 0 ≤ i) (h1 : i < n) (x : Int) : LA ahead (upd behind i x) lv there n (wr c (i.toNat * 4 + 1) [.int .i64 x]) := by
  have hs := h.size
  have hg := wr1_get (c := c) (k := i.toNat * 4 + 1) (by omega) (.int .i64 x)
  refine ⟨by rw [wr_size]; exact hs, ?_, ?_, ?_, ?_⟩
  · intro u g0 g1; rw [hg, if_neg (by omega)]; exact h.ahead u g0 g1
  · intro u g0 g1
    rw [hg]
    by_cases e : u = i
    · subst e; rw [if_pos (by omega), upd_same]
    · rw [if_neg (by omega), upd_ne _ _ e]; exact h.behind u g0 g1
  · intro u g0 g1; rw [hg, if_neg (by omega)]; exact h.lv u g0 g1
  · intro u g0 g1; rw [hg, if_neg (by omega)]; exact h.there u g0 g1
theorem LA.setRow {ahead behind lv : Int → Int} {there : Int → Bool} {n : Nat} {c : Array Value} (h : LA ahead behind lv there n c) {i : Int} (h0 : 0 ≤ i) (h1 : i < n) (x y z : Int) (t : Bool) : LA (upd ahead i x) (upd behind i y) (upd lv i z) (upd there i t) n (wr c (i.toNat * 4) [.int .i64 x, .int .i64 y, .int .u8 z, .bool t]) := by
  have hs := h.size
  have hg : ∀ j, (wr c (i.toNat * 4) [.int .i64 x, .int .i64 y, .int .u8 z, .bool t]).toList[j]? = if i.toNat * 4 ≤ j ∧ j < i.toNat * 4 + 4 then [.int .i64 x, .int .i64 y, .int .u8 z, .bool t][j - i.toNat * 4]? else c.toList[j]? := fun j => by
    rw [Array.getElem?_toList, wr_get _ _ _ _ (by simp only [List.length_cons, List.length_nil]; omega), ← Array.getElem?_toList (xs := c)]; rfl
  refine ⟨by rw [wr_size]; exact hs, ?_, ?_, ?_, ?_⟩
  · intro u g0 g1
    rw [hg]
    by_cases e : u = i
    · subst e; rw [if_pos (by omega), upd_same, show 0 + u.toNat * 4 + 0 - u.toNat * 4 = 0 by omega]; rfl
    · rw [if_neg (by omega), upd_ne _ _ e]; exact h.ahead u g0 g1
  · intro u g0 g1
    rw [hg]
    by_cases e : u = i
    · subst e; rw [if_pos (by omega), upd_same, show 0 + u.toNat * 4 + 1 - u.toNat * 4 = 1 by omega]; rfl
    · rw [if_neg (by omega), upd_ne _ _ e]; exact h.behind u g0 g1
  · intro u g0 g1
    rw [hg]
    by_cases e : u = i
    · subst e; rw [if_pos (by omega), upd_same, show 0 + u.toNat * 4 + 2 - u.toNat * 4 = 2 by omega]; rfl
    · rw [if_neg (by omega), upd_ne _ _ e]; exact h.lv u g0 g1
  · intro u g0 g1
    rw [hg]
    by_cases e : u = i
    · subst e; rw [if_pos (by omega), upd_same, show 0 + u.toNat * 4 + 3 - u.toNat * 4 = 3 by omega]; rfl
    · rw [if_neg (by omega), upd_ne _ _ e]; exact h.there u g0 g1
theorem LA.row {ahead behind lv : Int → Int} {there : Int → Bool} {n : Nat} {c : Array Value} (h : LA ahead behind lv there n c) {i : Int} (h0 : 0 ≤ i) (h1 : i < n) : c.extract (0 + i.toNat * 4) (0 + i.toNat * 4 + 4) = #[.int .i64 (ahead i), .int .i64 (behind i), .int .u8 (lv i), .bool (there i)] := by
  have hs := h.size
  apply Array.ext'
  apply List.ext_getElem?
  intro j
  simp only [Array.toList_extract, List.extract_eq_take_drop]
  rw [List.getElem?_take, List.getElem?_drop, show 0 + i.toNat * 4 + 4 - (0 + i.toNat * 4) = 4 by omega]
  match j with
  | 0 => rw [if_pos (by omega)]; exact h.ahead i h0 h1
  | 1 => rw [if_pos (by omega)]; exact h.behind i h0 h1
  | 2 => rw [if_pos (by omega)]; exact h.lv i h0 h1
  | 3 => rw [if_pos (by omega)]; exact h.there i h0 h1
  | j + 4 => rw [if_neg (by omega)]; simp
theorem LA.rowIn {ahead behind lv : Int → Int} {there : Int → Bool} {n : Nat} {c : Array Value} (h : LA ahead behind lv there n c) {i : Int} (h0 : 0 ≤ i) (h1 : i < n) : 0 + i.toNat * 4 + 4 ≤ c.size := by
  have := h.size
  omega

/-- What must hold of a queue's two blocks. -/
structure QI (n : Nat) (l : List RItem) (q : BQ) (W : Int → Int) (s : Value) (c cl : Array Value) : Prop where
  ri : RI q n l
  mw : MW W q.mask
  pos : 1 ≤ n
  max : n ≤ 1024
  qc : QC q.first q.last W q.many s c
  la : LA q.ahead q.behind q.lv q.there n cl

def qO (p : Value) (n : Nat) (l : List RItem) : HP := fun F => ∃ x : (BQ × (Int → Int)) × (Nat × Nat × Nat) × (Array Value × Array Value), (p = .pointer (some ⟨x.2.1.1, 0, none⟩) ∧ QI n l x.1.1 x.1.2 (.slice (some ⟨x.2.1.2.1, 0, none⟩) n x.2.1.2.2) x.2.2.1 x.2.2.2) ∧ Star [pt x.2.1.1 (.cells x.2.2.1 169 (0, 0)), pt x.2.1.2.1 (.cells x.2.2.2 171 (0, 0))] F

theorem qO_open {w : World} {L : List HP} {p : Value} {n : Nat} {l : List RItem} (h : Sat oo w (qO p n l :: L)) :
    ∃ q W b bl cap c cl, p = .pointer (some ⟨b, 0, none⟩) ∧ QI n l q W (.slice (some ⟨bl, 0, none⟩) n cap) c cl ∧ Sat oo w (pt b (.cells c 169 (0, 0)) :: pt bl (.cells cl 171 (0, 0)) :: L) := by
  obtain ⟨⟨⟨q, W⟩, ⟨b, bl, cap⟩, ⟨c, cl⟩⟩, h⟩ := h.ex (α := (BQ × (Int → Int)) × (Nat × Nat × Nat) × (Array Value × Array Value)) 0 rfl (q := fun x F => (p = .pointer (some ⟨x.2.1.1, 0, none⟩) ∧ QI n l x.1.1 x.1.2 (.slice (some ⟨x.2.1.2.1, 0, none⟩) n x.2.1.2.2) x.2.2.1 x.2.2.2) ∧ Star [pt x.2.1.1 (.cells x.2.2.1 169 (0, 0)), pt x.2.1.2.1 (.cells x.2.2.2 171 (0, 0))] F) (fun F ⟨x, h⟩ => ⟨x, h⟩)
  obtain ⟨h1, h2⟩ := h.fact 0 rfl (fun F hF => hF.1)
  exact ⟨q, W, b, bl, cap, c, cl, h1, h2, (h.imp 0 rfl (fun F hF => hF.2)).unstar⟩
theorem qO_shut {w : World} {L : List HP} {n b bl cap : Nat} {l : List RItem} {q : BQ} {W : Int → Int} {c cl : Array Value} (hq : QI n l q W (.slice (some ⟨bl, 0, none⟩) n cap) c cl)
    (h : Sat oo w (pt b (.cells c 169 (0, 0)) :: pt bl (.cells cl 171 (0, 0)) :: L)) : Sat oo w (qO (.pointer (some ⟨b, 0, none⟩)) n l :: L) := by
  have h1 := Sat.star (B := [pt b (.cells c 169 (0, 0)), pt bl (.cells cl 171 (0, 0))]) (L := L) h
  exact h1.imp 0 rfl (fun F hF => ⟨⟨⟨q, W⟩, ⟨b, bl, cap⟩, ⟨c, cl⟩⟩, ⟨rfl, hq⟩, hF⟩)

def mayErr (l : List RItem) (n : Nat) (id : Int) (t : Bool) : Int := if id < 0 ∨ id ≥ n then 2 else if t = true ∧ ¬ 0 ≤ rat l id then 6 else if t = false ∧ 0 ≤ rat l id then 5 else 0
theorem mayErr_push (l : List RItem) (n : Nat) (id : Int) : mayErr l n id false = rPushErr l n id := by
  unfold mayErr rPushErr
  simp
theorem mayErr_rem (l : List RItem) (n : Nat) (id : Int) : mayErr l n id true = rRemErr l n id := by
  unfold mayErr rRemErr
  simp [Int.not_le]

theorem RI.thereRat {q : BQ} {n : Nat} {l : List RItem} (h : RI q n l) {i : Int} (h0 : 0 ≤ i) (h1 : i < n) : q.there i = true ↔ 0 ≤ rat l i := by
  rw [h.there i h0 h1, rat_mem]

set_option maxHeartbeats 1000000 in
theorem bqMay (p : Value) (n : Nat) (l : List RItem) (id : Int) (t : Bool) : Ct Try.prog 136 #[p, .int .i64 id, .bool t] [qO p n l] (fun v ps => v = .int .i64 (mayErr l n id t) ∧ ps = [qO p n l]) := by
  refine Ct.enter Try.func136 rfl (Nat.le_of_ble_eq_true rfl) ?_
  intro oo w R hS
  change RC _ _ _ _ _ _ [(0, _), (1, _), (2, _)] _
  obtain ⟨q, W, b, bl, cap, c, cl, rfl, hq, hS⟩ := qO_open hS
  have hS0 := hS
  have hsz := hq.qc.size
  refine RC.seq ?_
  refine RC.region rfl ?_
  refine RL.q (Qt.as rfl) ?_
  refine RL.nil ?_
  refine RE.sqN ?_
  refine RC.seq ?_
  refine RC.block ?_
  refine RC.seq ?_
  refine RC.region rfl ?_
  refine RL.q (Qt.mv rfl) ?_
  refine RL.q (Qt.eqlN rfl rfl) ?_
  refine RL.q (Qt.as rfl) ?_
  refine RL.nil ?_
  refine RE.sqN ?_
  -- stops: cond
  refine RC.condF rfl (rfl) ?_
  refine RC.seq ?_
  refine RC.region rfl ?_
  refine RL.q (Qt.mv rfl) ?_
  refine RL.q (Qt.lss rfl rfl) ?_
  refine RL.q (Qt.mv rfl) ?_
  refine RLG.start 13 false rfl ?_
  refine RLG.q rfl rfl rfl (fun _ => Qt.mv rfl) ?_
  refine RLG.q rfl rfl rfl (fun _ => Qt.mv rfl) ?_
  refine RLG.q rfl rfl rfl (fun _ => Qt.nil rfl) ?_
  refine RLG.q rfl rfl rfl (fun _ => Qt.fld rfl) ?_
  refine RLG.q rfl rfl rfl (fun hg => by (try simp only [decide_eq_false_iff_not] at hg); exact Qt.ld rfl (by first | exact hS.at 0 rfl | exact hS.at 1 rfl | exact hS.at 2 rfl) (by first | exact hq.qc.links | exact hq.la.there _ (by omega) (by omega) | rfl)) ?_
  refine RLG.q rfl rfl rfl (fun _ => Qt.lenS rfl) ?_
  refine RLG.q rfl rfl rfl (fun hg => by (try simp only [decide_eq_false_iff_not] at hg); exact Qt.geq rfl rfl) ?_
  refine RLG.or rfl rfl ?_
  refine RL.q (Qt.as rfl) ?_
  refine RL.nil ?_
  refine RE.sqN ?_
  -- stops: cond
  refine RC.cond rfl (fun h => ?_) (fun h => ?_)
  · refine RC.seq ?_
    refine RC.region rfl ?_
    refine RL.q (Qt.as rfl) ?_
    refine RL.nil ?_
    refine RE.sqN ?_
    refine RC.ret ?_
    refine RE.bkR ?_
    refine RE.sqR ?_
    -- stops: end ret
    have h : id < 0 ∨ id ≥ n := by simpa using h
    exact RE.retB rfl ⟨by rw [mayErr, if_pos h]; rfl, rfl⟩ (qO_shut hq hS0)
  · skip
    have h : ¬ (id < 0 ∨ id ≥ n) := by simpa using h
    have ht := hq.ri.thereRat (i := id) (by omega) (by omega)
    refine RC.seq ?_
    refine RC.region rfl ?_
    refine RL.q (Qt.mv rfl) ?_
    refine RL.q (Qt.mv rfl) ?_
    refine RLG.start 24 true rfl ?_
    refine RLG.q rfl rfl rfl (fun _ => Qt.mv rfl) ?_
    refine RLG.q rfl rfl rfl (fun _ => Qt.nil rfl) ?_
    refine RLG.q rfl rfl rfl (fun _ => Qt.fld rfl) ?_
    refine RLG.q rfl rfl rfl (fun hg => by (try simp only [decide_eq_true_eq, decide_eq_false_iff_not, Bool.or_eq_false_iff, Bool.and_eq_true, Bool.not_eq_true, Bool.not_eq_false, Option.isSome_some, Option.isNone_some] at hg); exact Qt.ld rfl (by first | exact hS.at 0 rfl | exact hS.at 1 rfl | exact hS.at 2 rfl) (by first | exact hq.qc.links | exact hq.la.there _ (by omega) (by omega) | rfl)) ?_
    refine RLG.q rfl rfl rfl (fun _ => Qt.mv rfl) ?_
    refine RLG.q rfl rfl rfl (fun hg => by (try simp only [decide_eq_true_eq, decide_eq_false_iff_not, Bool.or_eq_false_iff, Bool.and_eq_true, Bool.not_eq_true, Bool.not_eq_false, Option.isSome_some, Option.isNone_some] at hg); exact Qt.ixS rfl rfl (by first | assumption | omega | (dsimp only; omega)) (by first | assumption | omega | (dsimp only; omega))) ?_
    refine RLG.q rfl rfl rfl (fun _ => Qt.fld rfl) ?_
    refine RLG.q rfl rfl rfl (fun hg => by (try simp only [decide_eq_true_eq, decide_eq_false_iff_not, Bool.or_eq_false_iff, Bool.and_eq_true, Bool.not_eq_true, Bool.not_eq_false, Option.isSome_some, Option.isNone_some] at hg); exact Qt.ld rfl (by first | exact hS.at 0 rfl | exact hS.at 1 rfl | exact hS.at 2 rfl) (by first | exact hq.qc.links | exact hq.la.there _ (by omega) (by omega) | rfl)) ?_
    refine RLG.q rfl rfl rfl (fun _ => Qt.not rfl) ?_
    refine RLG.and rfl rfl ?_
    refine RL.q (Qt.as rfl) ?_
    refine RL.nil ?_
    refine RE.sqN ?_
    -- stops: cond
    refine RC.cond rfl (fun h2 => ?_) (fun h2 => ?_)
    · refine RC.seq ?_
      refine RC.region rfl ?_
      refine RL.q (Qt.as rfl) ?_
      refine RL.nil ?_
      refine RE.sqN ?_
      refine RC.ret ?_
      refine RE.bkR ?_
      refine RE.sqR ?_
      -- stops: end ret
      have h2 : t = true ∧ q.there id = false := by simpa using h2
      have h3 : ¬ 0 ≤ rat l id := by rw [← ht, h2.2]; simp
      exact RE.retB rfl ⟨by rw [mayErr, if_neg h, if_pos ⟨h2.1, h3⟩]; rfl, rfl⟩ (qO_shut hq hS0)
    · skip
      have h2 : ¬ (t = true ∧ q.there id = false) := by simpa using h2
      have h4 : ¬ (t = true ∧ ¬ 0 ≤ rat l id) := by rw [← ht]; simpa using h2
      refine RC.seq ?_
      refine RC.region rfl ?_
      refine RL.q (Qt.mv rfl) ?_
      refine RL.q (Qt.not rfl) ?_
      refine RL.q (Qt.mv rfl) ?_
      refine RLG.start 38 true rfl ?_
      refine RLG.q rfl rfl rfl (fun _ => Qt.mv rfl) ?_
      refine RLG.q rfl rfl rfl (fun _ => Qt.nil rfl) ?_
      refine RLG.q rfl rfl rfl (fun _ => Qt.fld rfl) ?_
      refine RLG.q rfl rfl rfl (fun hg => by (try simp only [decide_eq_true_eq, decide_eq_false_iff_not, Bool.or_eq_false_iff, Bool.and_eq_true, Bool.not_eq_true, Bool.not_eq_false, Option.isSome_some, Option.isNone_some] at hg); exact Qt.ld rfl (by first | exact hS.at 0 rfl | exact hS.at 1 rfl | exact hS.at 2 rfl) (by first | exact hq.qc.links | exact hq.la.there _ (by omega) (by omega) | rfl)) ?_
      refine RLG.q rfl rfl rfl (fun _ => Qt.mv rfl) ?_
      refine RLG.q rfl rfl rfl (fun hg => by (try simp only [decide_eq_true_eq, decide_eq_false_iff_not, Bool.or_eq_false_iff, Bool.and_eq_true, Bool.not_eq_true, Bool.not_eq_false, Option.isSome_some, Option.isNone_some] at hg); exact Qt.ixS rfl rfl (by first | assumption | omega | (dsimp only; omega)) (by first | assumption | omega | (dsimp only; omega))) ?_
      refine RLG.q rfl rfl rfl (fun _ => Qt.fld rfl) ?_
      refine RLG.q rfl rfl rfl (fun hg => by (try simp only [decide_eq_true_eq, decide_eq_false_iff_not, Bool.or_eq_false_iff, Bool.and_eq_true, Bool.not_eq_true, Bool.not_eq_false, Option.isSome_some, Option.isNone_some] at hg); exact Qt.ld rfl (by first | exact hS.at 0 rfl | exact hS.at 1 rfl | exact hS.at 2 rfl) (by first | exact hq.qc.links | exact hq.la.there _ (by omega) (by omega) | rfl)) ?_
      refine RLG.and rfl rfl ?_
      refine RL.q (Qt.as rfl) ?_
      refine RL.nil ?_
      refine RE.sqN ?_
      -- stops: cond
      refine RC.cond rfl (fun h5 => ?_) (fun h5 => ?_)
      · refine RC.seq ?_
        refine RC.region rfl ?_
        refine RL.q (Qt.as rfl) ?_
        refine RL.nil ?_
        refine RE.sqN ?_
        refine RC.ret ?_
        refine RE.bkR ?_
        refine RE.sqR ?_
        -- stops: end ret
        have h5 : t = false ∧ q.there id = true := by simpa using h5
        have h6 : 0 ≤ rat l id := ht.1 h5.2
        exact RE.retB rfl ⟨by rw [mayErr, if_neg h, if_neg h4, if_pos ⟨h5.1, h6⟩]; rfl, rfl⟩ (qO_shut hq hS0)
      · refine RC.skip ?_
        refine RE.bkN ?_
        refine RE.sqN ?_
        refine RC.seq ?_
        refine RC.region rfl ?_
        refine RL.q (Qt.as rfl) ?_
        refine RL.nil ?_
        refine RE.sqN ?_
        refine RC.ret ?_
        -- stops: end ret
        have h5 : ¬ (t = false ∧ q.there id = true) := by simpa using h5
        have h6 : ¬ (t = false ∧ 0 ≤ rat l id) := by rw [← ht]; exact h5
        exact RE.retB rfl ⟨by rw [mayErr, if_neg h, if_neg h4, if_neg h6]; rfl, rfl⟩ (qO_shut hq hS0)
end Go.Proofs

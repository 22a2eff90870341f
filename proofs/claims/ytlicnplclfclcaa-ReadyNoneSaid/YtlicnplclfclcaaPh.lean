/- The heap of deadlines in memory: its cells; what ahead, may, meld, loose, cut do. -/
import Derived.Test.YtlicnplclfclcaaGxT
import Derived.Test.YtlicnplclfclcaaGxG
import Derived.Test.YtlicnplclfclcaaPhL
namespace Go.Proofs
open Go Go.Gx
variable {oo : World}

def prow (f : PH) (i : Int) : List Value := [.int .u64 (f.dl i), .int .u64 (f.sq i), .int .i64 (f.child i), .int .i64 (f.next i), .int .i64 (f.prev i), .bool (f.there i)]
abbrev hC (bl n cap : Nat) (root many : Int) : Obj := .cells #[.slice (some ⟨bl, 0, none⟩) n cap, .int .i64 root, .int .i64 many] 115 (0, 0)
abbrev hT (bl n : Nat) (f : PH) : HP := tabP bl 119 6 n (prow f)
theorem prow_wide (f : PH) (i : Int) : (prow f i).length = 6 := rfl

def hO (p : Value) (n : Nat) (l : List PItem) : HP := fun F => ∃ x : (PH × Int × Int × BT) × (Nat × Nat × Nat), (p = .pointer (some ⟨x.2.1, 0, none⟩) ∧ HI n l x.1.1 x.1.2.1 x.1.2.2.1 x.1.2.2.2 ∧ 1 ≤ n ∧ n ≤ 1024) ∧ Star [pt x.2.1 (hC x.2.2.1 n x.2.2.2 x.1.2.1 x.1.2.2.1), hT x.2.2.1 n x.1.1] F
theorem hO_open {w : World} {L : List HP} {p : Value} {n : Nat} {l : List PItem} (h : Sat oo w (hO p n l :: L)) :
    ∃ f root many t b bl cap, p = .pointer (some ⟨b, 0, none⟩) ∧ HI n l f root many t ∧ 1 ≤ n ∧ n ≤ 1024 ∧ Sat oo w (pt b (hC bl n cap root many) :: hT bl n f :: L) := by
  obtain ⟨⟨⟨f, root, many, t⟩, b, bl, cap⟩, h⟩ := h.ex (α := (PH × Int × Int × BT) × (Nat × Nat × Nat)) 0 rfl (q := fun x F => (p = .pointer (some ⟨x.2.1, 0, none⟩) ∧ HI n l x.1.1 x.1.2.1 x.1.2.2.1 x.1.2.2.2 ∧ 1 ≤ n ∧ n ≤ 1024) ∧ Star [pt x.2.1 (hC x.2.2.1 n x.2.2.2 x.1.2.1 x.1.2.2.1), hT x.2.2.1 n x.1.1] F) (fun F ⟨x, h⟩ => ⟨x, h⟩)
  obtain ⟨h1, h2, h3, h4⟩ := h.fact 0 rfl (fun F hF => hF.1)
  exact ⟨f, root, many, t, b, bl, cap, h1, h2, h3, h4, (h.imp 0 rfl (fun F hF => hF.2)).unstar⟩
theorem hO_shut {w : World} {L : List HP} {n b bl cap : Nat} {l : List PItem} {f : PH} {root many : Int} {t : BT} (hi : HI n l f root many t) (h1 : 1 ≤ n) (h2 : n ≤ 1024)
    (h : Sat oo w (pt b (hC bl n cap root many) :: hT bl n f :: L)) : Sat oo w (hO (.pointer (some ⟨b, 0, none⟩)) n l :: L) := by
  have h3 := Sat.star (B := [pt b (hC bl n cap root many), hT bl n f]) (L := L) h
  exact h3.imp 0 rfl (fun F hF => ⟨⟨⟨f, root, many, t⟩, b, bl, cap⟩, ⟨rfl, hi, h1, h2⟩, hF⟩)
theorem hO_pok {w : World} {L : List HP} {p : Value} {n : Nat} {l : List PItem} (h : Sat oo w (hO p n l :: L)) : POk n l ∧ 1 ≤ n ∧ n ≤ 1024 := by
  obtain ⟨f, root, many, t, b, bl, cap, _, h2, h3, h4, _⟩ := hO_open h
  exact ⟨h2.pok, h3, h4⟩

section
variable {n : Nat} {f : PH} {c : Array Value} {i : Int}
theorem pr2 (hc : Tab 6 n (prow f) c) (h0 : 0 ≤ i) (h1 : i < n) : c.toList[0 + i.toNat * 6 + 2]? = some (.int .i64 (f.child i)) := hc.get h0 h1 2 rfl
theorem pr3 (hc : Tab 6 n (prow f) c) (h0 : 0 ≤ i) (h1 : i < n) : c.toList[0 + i.toNat * 6 + 3]? = some (.int .i64 (f.next i)) := hc.get h0 h1 3 rfl
theorem pr4 (hc : Tab 6 n (prow f) c) (h0 : 0 ≤ i) (h1 : i < n) : c.toList[0 + i.toNat * 6 + 4]? = some (.int .i64 (f.prev i)) := hc.get h0 h1 4 rfl
theorem pr5 (hc : Tab 6 n (prow f) c) (h0 : 0 ≤ i) (h1 : i < n) : c.toList[0 + i.toNat * 6 + 5]? = some (.bool (f.there i)) := hc.get h0 h1 5 rfl
theorem pr0 (hc : Tab 6 n (prow f) c) (h0 : 0 ≤ i) (h1 : i < n) : c.toList[0 + i.toNat * 6]? = some (.int .u64 (f.dl i)) := hc.get h0 h1 0 rfl
theorem pr1 (hc : Tab 6 n (prow f) c) (h0 : 0 ≤ i) (h1 : i < n) : c.toList[0 + i.toNat * 6 + 1]? = some (.int .u64 (f.sq i)) := hc.get h0 h1 1 rfl
theorem prR (hc : Tab 6 n (prow f) c) (h0 : 0 ≤ i) (h1 : i < n) : c.extract (0 + i.toNat * 6) (0 + i.toNat * 6 + 6) = #[.int .u64 (f.dl i), .int .u64 (f.sq i), .int .i64 (f.child i), .int .i64 (f.next i), .int .i64 (f.prev i), .bool (f.there i)] := hc.row h0 h1
theorem ps2 (hc : Tab 6 n (prow f) c) (h0 : 0 ≤ i) (h1 : i < n) (v : Int) : Tab 6 n (prow { f with child := upd f.child i v }) (wr c (i.toNat * 6 + 2) [.int .i64 v]) :=
  hc.set h0 h1 2 (by decide) rfl (by simp [prow, upd]) fun u hu => by simp [prow, upd, hu]
theorem ps3 (hc : Tab 6 n (prow f) c) (h0 : 0 ≤ i) (h1 : i < n) (v : Int) : Tab 6 n (prow { f with next := upd f.next i v }) (wr c (i.toNat * 6 + 3) [.int .i64 v]) :=
  hc.set h0 h1 3 (by decide) rfl (by simp [prow, upd]) fun u hu => by simp [prow, upd, hu]
theorem ps4 (hc : Tab 6 n (prow f) c) (h0 : 0 ≤ i) (h1 : i < n) (v : Int) : Tab 6 n (prow { f with prev := upd f.prev i v }) (wr c (i.toNat * 6 + 4) [.int .i64 v]) :=
  hc.set h0 h1 4 (by decide) rfl (by simp [prow, upd]) fun u hu => by simp [prow, upd, hu]
theorem psZ (hc : Tab 6 n (prow f) c) (h0 : 0 ≤ i) (h1 : i < n) : Tab 6 n (prow (zeroF f i)) (wr c (i.toNat * 6) [.int .u64 0, .int .u64 0, .int .i64 0, .int .i64 0, .int .i64 0, .bool false]) :=
  hc.setRow h0 h1 rfl rfl (by simp [prow, zeroF, upd]) fun u hu => by simp [prow, zeroF, upd, hu]
theorem psI (hc : Tab 6 n (prow f) c) {x : PItem} (h0 : 0 ≤ x.id) (h1 : x.id < n) : Tab 6 n (prow (insF f x)) (wr c (x.id.toNat * 6) [.int .u64 x.dl, .int .u64 x.sq, .int .i64 (-1), .int .i64 (-1), .int .i64 (-1), .bool true]) :=
  hc.setRow h0 h1 rfl rfl (by simp [prow, insF, upd]) fun u hu => by simp [prow, insF, upd, hu]
end

set_option maxHeartbeats 1000000 in
theorem phAhead (b bl n cap : Nat) (f : PH) (root many x y : Int) (hx : 0 ≤ x ∧ x < n) (hy : 0 ≤ y ∧ y < n) : Ct Try.prog 127 #[.pointer (some ⟨b, 0, none⟩), .int .i64 x, .int .i64 y] [pt b (hC bl n cap root many), hT bl n f]
    (fun v ps => v = .bool (aheadF f x y) ∧ ps = [pt b (hC bl n cap root many), hT bl n f]) := by
  refine Ct.enter Try.func127 rfl (Nat.le_of_ble_eq_true rfl) ?_
  intro oo w R hS
  change RC _ _ _ _ _ _ [(0, _), (1, _), (2, _)] _
  obtain ⟨c, hc, hS⟩ := hS.tabOpen 1 rfl
  try simp only [List.set_cons_zero, List.set_cons_succ] at hS
  have hsz := hc.size
  have hrx := prR hc hx.1 hx.2
  have hry := prR hc hy.1 hy.2
  refine RC.seq ?_
  refine RC.region rfl ?_
  refine RL.q (Qt.as rfl) ?_
  refine RL.nil ?_
  refine RE.sqN ?_
  refine RC.seq ?_
  -- stops: drawn
  refine RC.drawn 18 [0, 1, 2, 3, 4, 5, 6, 7, 8, 9, 10, 11, 12, 13, 14, 15, 16, 17] (fun w' => w'.heap[b]? = some (hC bl n cap root many) ∧ w'.heap[bl]? = some (.cells c 119 (0, 0))) (by kernel_rfl) (by kernel_rfl) ⟨hS.drew.get 0 rfl, hS.drew.get 1 rfl⟩ (fun hh => ?_)
  replace hS := hS.drew
  refine RH.q hh (Calm.sq Calm.body) rfl (by kernel_rfl) (Qt.mv rfl) ?_
  refine RH.q hh (Calm.sq Calm.body) rfl (by kernel_rfl) (Qt.nil rfl) ?_
  refine RH.q hh (Calm.sq Calm.body) rfl (by kernel_rfl) (Qt.fld rfl) ?_
  refine RH.q hh (Calm.sq Calm.body) rfl (by kernel_rfl) (Qt.ld rfl (by first | exact fun _ h => h.1 | exact fun _ h => h.2) (by first  | rfl)) ?_
  refine RH.q hh (Calm.sq Calm.body) rfl (by kernel_rfl) (Qt.mv rfl) ?_
  refine RH.q hh (Calm.sq Calm.body) rfl (by kernel_rfl) (Qt.ixS rfl rfl (by first | assumption | omega | (dsimp only; omega)) (by first | assumption | omega | (dsimp only; omega))) ?_
  refine RH.q hh (Calm.sq Calm.body) rfl (by kernel_rfl) (Qt.ldA rfl (by first | exact fun _ h => h.1 | exact fun _ h => h.2) (by first | exact hrx | exact hry | rfl) (by first | exact Nat.le_of_ble_eq_true rfl | omega | (simp only [Array.size_map]; omega))) ?_
  refine RH.q hh (Calm.sq Calm.body) rfl (by kernel_rfl) (Qt.mv rfl) ?_
  refine RH.q hh (Calm.sq Calm.body) rfl (by kernel_rfl) (Qt.nil rfl) ?_
  refine RH.q hh (Calm.sq Calm.body) rfl (by kernel_rfl) (Qt.fld rfl) ?_
  refine RH.q hh (Calm.sq Calm.body) rfl (by kernel_rfl) (Qt.ld rfl (by first | exact fun _ h => h.1 | exact fun _ h => h.2) (by first  | rfl)) ?_
  refine RH.q hh (Calm.sq Calm.body) rfl (by kernel_rfl) (Qt.mv rfl) ?_
  refine RH.q hh (Calm.sq Calm.body) rfl (by kernel_rfl) (Qt.ixS rfl rfl (by first | assumption | omega | (dsimp only; omega)) (by first | assumption | omega | (dsimp only; omega))) ?_
  refine RH.q hh (Calm.sq Calm.body) rfl (by kernel_rfl) (Qt.ldA rfl (by first | exact fun _ h => h.1 | exact fun _ h => h.2) (by first | exact hrx | exact hry | rfl) (by first | exact Nat.le_of_ble_eq_true rfl | omega | (simp only [Array.size_map]; omega))) ?_
  refine RH.alloc2 hh rfl rfl (by kernel_rfl) rfl hS (fun _ _ _ hS => ⟨hS.get 1 rfl, hS.get 2 rfl⟩) ?_
  intro b7 b8 w hS
  try simp (disch := omega) only [cells_agg'] at hS
  refine ⟨⟨hS.get 2 rfl, hS.get 3 rfl⟩, ?_⟩
  first | refine RH.e0 hh rfl (by kernel_rfl) (Ef.st hS 0 rfl rfl rfl (by rfl) (by rfl) (by first | exact Nat.le_of_ble_eq_true rfl | omega | (simp only [Array.size_map]; omega))) ?_ | refine RH.e0 hh rfl (by kernel_rfl) (Ef.st hS 1 rfl rfl rfl (by rfl) (by rfl) (by first | exact Nat.le_of_ble_eq_true rfl | omega | (simp only [Array.size_map]; omega))) ?_ | refine RH.e0 hh rfl (by kernel_rfl) (Ef.st hS 2 rfl rfl rfl (by rfl) (by rfl) (by first | exact Nat.le_of_ble_eq_true rfl | omega | (simp only [Array.size_map]; omega))) ?_ | refine RH.e0 hh rfl (by kernel_rfl) (Ef.st hS 3 rfl rfl rfl (by rfl) (by rfl) (by first | exact Nat.le_of_ble_eq_true rfl | omega | (simp only [Array.size_map]; omega))) ?_ | refine RH.e0 hh rfl (by kernel_rfl) (Ef.st hS 4 rfl rfl rfl (by rfl) (by rfl) (by first | exact Nat.le_of_ble_eq_true rfl | omega | (simp only [Array.size_map]; omega))) ?_
  intro _ w hS
  simp (disch := omega) only [List.set_cons_zero, List.set_cons_succ, cells_agg', Nat.zero_add, wr, List.setIfInBounds_toArray] at hS
  refine ⟨⟨hS.get 2 rfl, hS.get 3 rfl⟩, ?_⟩
  first | refine RH.e0 hh rfl (by kernel_rfl) (Ef.st hS 0 rfl rfl rfl (by rfl) (by rfl) (by first | exact Nat.le_of_ble_eq_true rfl | omega | (simp only [Array.size_map]; omega))) ?_ | refine RH.e0 hh rfl (by kernel_rfl) (Ef.st hS 1 rfl rfl rfl (by rfl) (by rfl) (by first | exact Nat.le_of_ble_eq_true rfl | omega | (simp only [Array.size_map]; omega))) ?_ | refine RH.e0 hh rfl (by kernel_rfl) (Ef.st hS 2 rfl rfl rfl (by rfl) (by rfl) (by first | exact Nat.le_of_ble_eq_true rfl | omega | (simp only [Array.size_map]; omega))) ?_ | refine RH.e0 hh rfl (by kernel_rfl) (Ef.st hS 3 rfl rfl rfl (by rfl) (by rfl) (by first | exact Nat.le_of_ble_eq_true rfl | omega | (simp only [Array.size_map]; omega))) ?_ | refine RH.e0 hh rfl (by kernel_rfl) (Ef.st hS 4 rfl rfl rfl (by rfl) (by rfl) (by first | exact Nat.le_of_ble_eq_true rfl | omega | (simp only [Array.size_map]; omega))) ?_
  intro _ w hS
  simp (disch := omega) only [List.set_cons_zero, List.set_cons_succ, cells_agg', Nat.zero_add, wr, List.setIfInBounds_toArray] at hS
  refine ⟨⟨hS.get 2 rfl, hS.get 3 rfl⟩, ?_⟩
  refine RH.done hh (by kernel_rfl) ?_
  refine RL.nil ?_
  refine RE.sqN ?_
  refine RC.seq ?_
  refine RC.block ?_
  refine RC.seq ?_
  refine RC.region rfl ?_
  refine RL.q (Qt.fld rfl) ?_
  refine RL.q (Qt.fld rfl) ?_
  refine RL.q (Qt.ld rfl (by first | exact hS.at 0 rfl | exact hS.at 1 rfl | exact hS.at 2 rfl | exact hS.at 3 rfl | exact hS.at 4 rfl) (by first  | rfl)) ?_
  refine RL.q (Qt.fld rfl) ?_
  refine RL.q (Qt.fld rfl) ?_
  refine RL.q (Qt.ld rfl (by first | exact hS.at 0 rfl | exact hS.at 1 rfl | exact hS.at 2 rfl | exact hS.at 3 rfl | exact hS.at 4 rfl) (by first  | rfl)) ?_
  refine RL.q (Qt.neq rfl rfl) ?_
  refine RL.q (Qt.as rfl) ?_
  refine RL.nil ?_
  refine RE.sqN ?_
  -- stops: cond
  refine RC.cond rfl (fun h => ?_) (fun h => ?_)
  · refine RC.seq ?_
    refine RC.region rfl ?_
    refine RL.q (Qt.fld rfl) ?_
    refine RL.q (Qt.fld rfl) ?_
    refine RL.q (Qt.ld rfl (by first | exact hS.at 0 rfl | exact hS.at 1 rfl | exact hS.at 2 rfl | exact hS.at 3 rfl | exact hS.at 4 rfl) (by first  | rfl)) ?_
    refine RL.q (Qt.fld rfl) ?_
    refine RL.q (Qt.fld rfl) ?_
    refine RL.q (Qt.ld rfl (by first | exact hS.at 0 rfl | exact hS.at 1 rfl | exact hS.at 2 rfl | exact hS.at 3 rfl | exact hS.at 4 rfl) (by first  | rfl)) ?_
    refine RL.q (Qt.lss rfl rfl) ?_
    refine RL.q (Qt.as rfl) ?_
    refine RL.nil ?_
    refine RE.sqN ?_
    refine RC.ret ?_
    refine RE.bkR ?_
    refine RE.sqR ?_
    -- stops: end ret
    have h : f.dl x ≠ f.dl y := of_decide_eq_true h
    refine RE.retB rfl ⟨?_, rfl⟩ ((hS.pick [2, 3, 4] (by decide) rfl).tabShut 1 rfl hc)
    simp only [oneOf, Value.bool.injEq, aheadF]
    exact decide_eq_decide.2 (by simp only [PItem.lt, PH.it]; omega)
  · skip
    have h : f.dl x = f.dl y := Classical.not_not.1 (of_decide_eq_false h)
    refine RC.seq ?_
    refine RC.region rfl ?_
    refine RL.q (Qt.fld rfl) ?_
    refine RL.q (Qt.fld rfl) ?_
    refine RL.q (Qt.ld rfl (by first | exact hS.at 0 rfl | exact hS.at 1 rfl | exact hS.at 2 rfl | exact hS.at 3 rfl | exact hS.at 4 rfl) (by first  | rfl)) ?_
    refine RL.q (Qt.fld rfl) ?_
    refine RL.q (Qt.fld rfl) ?_
    refine RL.q (Qt.ld rfl (by first | exact hS.at 0 rfl | exact hS.at 1 rfl | exact hS.at 2 rfl | exact hS.at 3 rfl | exact hS.at 4 rfl) (by first  | rfl)) ?_
    refine RL.q (Qt.neq rfl rfl) ?_
    refine RL.q (Qt.as rfl) ?_
    refine RL.nil ?_
    refine RE.sqN ?_
    -- stops: cond
    refine RC.cond rfl (fun h2 => ?_) (fun h2 => ?_)
    · refine RC.seq ?_
      refine RC.region rfl ?_
      refine RL.q (Qt.fld rfl) ?_
      refine RL.q (Qt.fld rfl) ?_
      refine RL.q (Qt.ld rfl (by first | exact hS.at 0 rfl | exact hS.at 1 rfl | exact hS.at 2 rfl | exact hS.at 3 rfl | exact hS.at 4 rfl) (by first  | rfl)) ?_
      refine RL.q (Qt.fld rfl) ?_
      refine RL.q (Qt.fld rfl) ?_
      refine RL.q (Qt.ld rfl (by first | exact hS.at 0 rfl | exact hS.at 1 rfl | exact hS.at 2 rfl | exact hS.at 3 rfl | exact hS.at 4 rfl) (by first  | rfl)) ?_
      refine RL.q (Qt.lss rfl rfl) ?_
      refine RL.q (Qt.as rfl) ?_
      refine RL.nil ?_
      refine RE.sqN ?_
      refine RC.ret ?_
      refine RE.bkR ?_
      refine RE.sqR ?_
      -- stops: end ret
      have h2 : f.sq x ≠ f.sq y := of_decide_eq_true h2
      refine RE.retB rfl ⟨?_, rfl⟩ ((hS.pick [2, 3, 4] (by decide) rfl).tabShut 1 rfl hc)
      simp only [oneOf, Value.bool.injEq, aheadF]
      exact decide_eq_decide.2 (by simp only [PItem.lt, PH.it]; omega)
    · refine RC.skip ?_
      refine RE.bkN ?_
      refine RE.sqN ?_
      refine RC.seq ?_
      refine RC.region rfl ?_
      refine RL.q (Qt.mv rfl) ?_
      refine RL.q (Qt.mv rfl) ?_
      refine RL.q (Qt.lss rfl rfl) ?_
      refine RL.q (Qt.as rfl) ?_
      refine RL.nil ?_
      refine RE.sqN ?_
      refine RC.ret ?_
      -- stops: end ret
      have h2 : f.sq x = f.sq y := Classical.not_not.1 (of_decide_eq_false h2)
      refine RE.retB rfl ⟨?_, rfl⟩ ((hS.pick [2, 3, 4] (by decide) rfl).tabShut 1 rfl hc)
      simp only [oneOf, Value.bool.injEq, aheadF]
      exact decide_eq_decide.2 (by simp only [PItem.lt, PH.it]; omega)

set_option maxHeartbeats 1000000 in
theorem phMay (p : Value) (n : Nat) (l : List PItem) (id : Int) (t : Bool) : Ct Try.prog 82 #[p, .int .i64 id, .bool t] [hO p n l] (fun v ps => v = .int .i64 (pErr l n id t) ∧ ps = [hO p n l]) := by
  refine Ct.enter Try.func82 rfl (Nat.le_of_ble_eq_true rfl) ?_
  intro oo w R hS
  change RC _ _ _ _ _ _ [(0, _), (1, _), (2, _)] _
  obtain ⟨f, root, many, tr, b, bl, cap, rfl, hi, hn1, hn2, hS⟩ := hO_open hS
  have hS0 := hS
  obtain ⟨c, hc, hS⟩ := hS.tabOpen 1 rfl
  try simp only [List.set_cons_zero, List.set_cons_succ] at hS
  have hsz := hc.size
  refine RC.seq ?_
  refine RC.region rfl ?_
  refine RL.q (Qt.as rfl) ?_
  refine RL.nil ?_
  refine RE.sqN ?_
  refine RC.seq ?_
  refine RC.block ?_
  refine RC.seq ?_
  refine RC.region rfl ?_
  refine RL.q (Qt.mv rfl) ?_
  refine RL.q (Qt.eqlN rfl rfl) ?_
  refine RL.q (Qt.as rfl) ?_
  refine RL.nil ?_
  refine RE.sqN ?_
  -- stops: cond
  refine RC.condF rfl (rfl) ?_
  refine RC.seq ?_
  refine RC.region rfl ?_
  refine RL.q (Qt.mv rfl) ?_
  refine RL.q (Qt.lss rfl rfl) ?_
  refine RL.q (Qt.mv rfl) ?_
  refine RLG.start 13 false rfl ?_
  refine RLG.q rfl rfl rfl (fun _ => Qt.mv rfl) ?_
  refine RLG.q rfl rfl rfl (fun _ => Qt.mv rfl) ?_
  refine RLG.q rfl rfl rfl (fun _ => Qt.nil rfl) ?_
  refine RLG.q rfl rfl rfl (fun _ => Qt.fld rfl) ?_
  refine RLG.q rfl rfl rfl (fun hg => by (try simp only [decide_eq_false_iff_not] at hg); exact Qt.ld rfl (by first | exact hS.at 0 rfl | exact hS.at 1 rfl | exact hS.at 2 rfl) (by first | exact pr5 hc (by omega) (by omega) | rfl)) ?_
  refine RLG.q rfl rfl rfl (fun _ => Qt.lenS rfl) ?_
  refine RLG.q rfl rfl rfl (fun hg => by (try simp only [decide_eq_false_iff_not] at hg); exact Qt.geq rfl rfl) ?_
  refine RLG.or rfl rfl ?_
  refine RL.q (Qt.as rfl) ?_
  refine RL.nil ?_
  refine RE.sqN ?_
  -- stops: cond
  refine RC.cond rfl (fun h => ?_) (fun h => ?_)
  · refine RC.seq ?_
    refine RC.region rfl ?_
    refine RL.q (Qt.as rfl) ?_
    refine RL.nil ?_
    refine RE.sqN ?_
    refine RC.ret ?_
    refine RE.bkR ?_
    refine RE.sqR ?_
    -- stops: end ret
    have h : id < 0 ∨ id ≥ n := by simpa using h
    exact RE.retB rfl ⟨by rw [pErr_range h]; rfl, rfl⟩ (hO_shut hi hn1 hn2 hS0)
  · skip
    have h : ¬ (id < 0 ∨ id ≥ n) := by simpa using h
    have ht := hi.there id (by omega) (by omega)
    refine RC.seq ?_
    refine RC.region rfl ?_
    refine RL.q (Qt.mv rfl) ?_
    refine RL.q (Qt.mv rfl) ?_
    refine RLG.start 24 true rfl ?_
    refine RLG.q rfl rfl rfl (fun _ => Qt.mv rfl) ?_
    refine RLG.q rfl rfl rfl (fun _ => Qt.nil rfl) ?_
    refine RLG.q rfl rfl rfl (fun _ => Qt.fld rfl) ?_
    refine RLG.q rfl rfl rfl (fun hg => by (try simp only [decide_eq_true_eq, decide_eq_false_iff_not, Bool.or_eq_false_iff, Bool.and_eq_true, Bool.not_eq_true, Bool.not_eq_false, Option.isSome_some, Option.isNone_some] at hg); exact Qt.ld rfl (by first | exact hS.at 0 rfl | exact hS.at 1 rfl | exact hS.at 2 rfl) (by first | exact pr5 hc (by omega) (by omega) | rfl)) ?_
    refine RLG.q rfl rfl rfl (fun _ => Qt.mv rfl) ?_
    refine RLG.q rfl rfl rfl (fun hg => by (try simp only [decide_eq_true_eq, decide_eq_false_iff_not, Bool.or_eq_false_iff, Bool.and_eq_true, Bool.not_eq_true, Bool.not_eq_false, Option.isSome_some, Option.isNone_some] at hg); exact Qt.ixS rfl rfl (by first | assumption | omega | (dsimp only; omega)) (by first | assumption | omega | (dsimp only; omega))) ?_
    refine RLG.q rfl rfl rfl (fun _ => Qt.fld rfl) ?_
    refine RLG.q rfl rfl rfl (fun hg => by (try simp only [decide_eq_true_eq, decide_eq_false_iff_not, Bool.or_eq_false_iff, Bool.and_eq_true, Bool.not_eq_true, Bool.not_eq_false, Option.isSome_some, Option.isNone_some] at hg); exact Qt.ld rfl (by first | exact hS.at 0 rfl | exact hS.at 1 rfl | exact hS.at 2 rfl) (by first | exact pr5 hc (by omega) (by omega) | rfl)) ?_
    refine RLG.q rfl rfl rfl (fun _ => Qt.not rfl) ?_
    refine RLG.and rfl rfl ?_
    refine RL.q (Qt.as rfl) ?_
    refine RL.nil ?_
    refine RE.sqN ?_
    -- stops: cond
    refine RC.cond rfl (fun h2 => ?_) (fun h2 => ?_)
    · refine RC.seq ?_
      refine RC.region rfl ?_
      refine RL.q (Qt.as rfl) ?_
      refine RL.nil ?_
      refine RE.sqN ?_
      refine RC.ret ?_
      refine RE.bkR ?_
      refine RE.sqR ?_
      -- stops: end ret
      have h2 : t = true ∧ f.there id = false := by simpa using h2
      have h3 : id ∉ pIds l := by rw [← ht, h2.2]; simp
      obtain ⟨rfl, _⟩ := h2
      exact RE.retB rfl ⟨by rw [pErr_none h h3]; rfl, rfl⟩ (hO_shut hi hn1 hn2 hS0)
    · skip
      have h2 : ¬ (t = true ∧ f.there id = false) := by simpa using h2
      refine RC.seq ?_
      refine RC.region rfl ?_
      refine RL.q (Qt.mv rfl) ?_
      refine RL.q (Qt.not rfl) ?_
      refine RL.q (Qt.mv rfl) ?_
      refine RLG.start 38 true rfl ?_
      refine RLG.q rfl rfl rfl (fun _ => Qt.mv rfl) ?_
      refine RLG.q rfl rfl rfl (fun _ => Qt.nil rfl) ?_
      refine RLG.q rfl rfl rfl (fun _ => Qt.fld rfl) ?_
      refine RLG.q rfl rfl rfl (fun hg => by (try simp only [decide_eq_true_eq, decide_eq_false_iff_not, Bool.or_eq_false_iff, Bool.and_eq_true, Bool.not_eq_true, Bool.not_eq_false, Option.isSome_some, Option.isNone_some] at hg); exact Qt.ld rfl (by first | exact hS.at 0 rfl | exact hS.at 1 rfl | exact hS.at 2 rfl) (by first | exact pr5 hc (by omega) (by omega) | rfl)) ?_
      refine RLG.q rfl rfl rfl (fun _ => Qt.mv rfl) ?_
      refine RLG.q rfl rfl rfl (fun hg => by (try simp only [decide_eq_true_eq, decide_eq_false_iff_not, Bool.or_eq_false_iff, Bool.and_eq_true, Bool.not_eq_true, Bool.not_eq_false, Option.isSome_some, Option.isNone_some] at hg); exact Qt.ixS rfl rfl (by first | assumption | omega | (dsimp only; omega)) (by first | assumption | omega | (dsimp only; omega))) ?_
      refine RLG.q rfl rfl rfl (fun _ => Qt.fld rfl) ?_
      refine RLG.q rfl rfl rfl (fun hg => by (try simp only [decide_eq_true_eq, decide_eq_false_iff_not, Bool.or_eq_false_iff, Bool.and_eq_true, Bool.not_eq_true, Bool.not_eq_false, Option.isSome_some, Option.isNone_some] at hg); exact Qt.ld rfl (by first | exact hS.at 0 rfl | exact hS.at 1 rfl | exact hS.at 2 rfl) (by first | exact pr5 hc (by omega) (by omega) | rfl)) ?_
      refine RLG.and rfl rfl ?_
      refine RL.q (Qt.as rfl) ?_
      refine RL.nil ?_
      refine RE.sqN ?_
      -- stops: cond
      refine RC.cond rfl (fun h5 => ?_) (fun h5 => ?_)
      · refine RC.seq ?_
        refine RC.region rfl ?_
        refine RL.q (Qt.as rfl) ?_
        refine RL.nil ?_
        refine RE.sqN ?_
        refine RC.ret ?_
        refine RE.bkR ?_
        refine RE.sqR ?_
        -- stops: end ret
        have h5 : t = false ∧ f.there id = true := by simpa using h5
        have h6 : id ∈ pIds l := ht.1 h5.2
        obtain ⟨rfl, _⟩ := h5
        exact RE.retB rfl ⟨by rw [pErr_known h h6]; rfl, rfl⟩ (hO_shut hi hn1 hn2 hS0)
      · refine RC.skip ?_
        refine RE.bkN ?_
        refine RE.sqN ?_
        refine RC.seq ?_
        refine RC.region rfl ?_
        refine RL.q (Qt.as rfl) ?_
        refine RL.nil ?_
        refine RE.sqN ?_
        refine RC.ret ?_
        -- stops: end ret
        have h5 : ¬ (t = false ∧ f.there id = true) := by simpa using h5
        refine RE.retB rfl ⟨?_, rfl⟩ (hO_shut hi hn1 hn2 hS0)
        cases t with
        | true =>
          have : id ∈ pIds l := ht.1 (by simpa using h2)
          rw [pErr_ok1 h this]; rfl
        | false =>
          have : id ∉ pIds l := fun e => h5 ⟨rfl, ht.2 e⟩
          rw [pErr_ok0 h this]; rfl

set_option maxHeartbeats 4000000 in
theorem phMeld (b bl n cap : Nat) (f : PH) (root many x y : Int) (hb : Bd n f) (hx : -1 ≤ x ∧ x < n) (hy : -1 ≤ y ∧ y < n) : Ct Try.prog 84 #[.pointer (some ⟨b, 0, none⟩), .int .i64 x, .int .i64 y] [pt b (hC bl n cap root many), hT bl n f]
    (fun v ps => v = .int .i64 (meldF f x y).2 ∧ ps = [pt b (hC bl n cap root many), hT bl n (meldF f x y).1]) := by
  refine Ct.enter Try.func84 rfl (Nat.le_of_ble_eq_true rfl) ?_
  intro oo w R hS
  change RC _ _ _ _ _ _ [(0, _), (1, _), (2, _)] _
  refine RC.seq ?_
  refine RC.region rfl ?_
  refine RL.q (Qt.as rfl) ?_
  refine RL.nil ?_
  refine RE.sqN ?_
  refine RC.seq ?_
  refine RC.seq ?_
  refine RC.region rfl ?_
  refine RL.q (Qt.mv rfl) ?_
  refine RL.q (Qt.eql rfl rfl) ?_
  refine RL.q (Qt.mv rfl) ?_
  refine RLG.start 10 false rfl ?_
  refine RLG.q rfl rfl rfl (fun _ => Qt.mv rfl) ?_
  refine RLG.q rfl rfl rfl (fun hg => by (try simp only [decide_eq_false_iff_not] at hg); exact Qt.eql rfl rfl) ?_
  refine RLG.or rfl rfl ?_
  refine RL.nil ?_
  refine RE.sqN ?_
  -- stops: cond
  refine RC.cond rfl (fun h => ?_) (fun h => ?_)
  · refine RC.seq ?_
    refine RC.region rfl ?_
    refine RL.q (Qt.mv rfl) ?_
    refine RL.q (Qt.mv rfl) ?_
    refine RL.q (Qt.max rfl rfl) ?_
    refine RL.q (Qt.as rfl) ?_
    refine RL.nil ?_
    refine RE.sqN ?_
    refine RC.ret ?_
    refine RE.sqR ?_
    -- stops: end ret
    have h : x = -1 ∨ y = -1 := by simpa using h
    have e : meldF f x y = (f, max x y) := by rw [meldF, if_pos h]
    rw [e]
    exact RE.retB rfl ⟨rfl, rfl⟩ hS
  · skip
    have h : ¬ (x = -1 ∨ y = -1) := by simpa using h
    refine RC.skip ?_
    refine RE.sqN ?_
    refine RC.seq ?_
    refine RC.seq ?_
    refine RC.region rfl ?_
    refine RL.q (Qt.mv rfl) ?_
    refine RL.q (Qt.mv rfl) ?_
    refine RL.q (Qt.mv rfl) ?_
    -- stops: op call
    refine RL.e (Ef.call hS (phAhead b bl n cap f root many y x (by omega) (by omega)) rfl rfl Try.call127 [0, 1] [2] (by decide) rfl rfl) ?_
    rintro v20 w ⟨ps, ⟨rfl, rfl⟩, hS⟩
    refine RL.nil ?_
    refine RE.sqN ?_
    -- stops: cond
    refine RC.cond rfl (fun h2 => ?_) (fun h2 => ?_)
    · skip
      have e : meldF f x y = (linkF f y x, y) := by rw [meldF, if_neg h, if_pos h2]
      rw [e]
      obtain ⟨c, hc, hS⟩ := hS.tabOpen 1 rfl
      try simp only [List.set_cons_zero, List.set_cons_succ] at hS
      have hsz := hc.size
      have hch := (hb y (by omega) (by omega)).1
      have hc1 := ps3 hc (i := x) (by omega) (by omega) (f.child y)
      have hc2 := ps4 hc1 (i := x) (by omega) (by omega) y
      refine RC.region rfl ?_
      refine RL.q (Qt.mv rfl) ?_
      refine RL.q (Qt.mv rfl) ?_
      refine RL.q (Qt.as rfl) ?_
      refine RL.q (Qt.as rfl) ?_
      refine RL.nil ?_
      refine RE.sqN ?_
      refine RC.seq ?_
      refine RC.region rfl ?_
      refine RL.q (Qt.mv rfl) ?_
      refine RL.q (Qt.nil rfl) ?_
      refine RL.q (Qt.fld rfl) ?_
      refine RL.q (Qt.ld rfl (by first | exact hS.at 0 rfl | exact hS.at 1 rfl | exact hS.at 2 rfl) (by first | exact pr2 hc (by omega) (by omega) | rfl)) ?_
      refine RL.q (Qt.mv rfl) ?_
      refine RL.q (Qt.ixS rfl rfl (by first | assumption | omega | (dsimp only; omega)) (by first | assumption | omega | (dsimp only; omega))) ?_
      refine RL.q (Qt.fld rfl) ?_
      refine RL.q (Qt.ld rfl (by first | exact hS.at 0 rfl | exact hS.at 1 rfl | exact hS.at 2 rfl) (by first | exact pr2 hc (by omega) (by omega) | rfl)) ?_
      refine RL.q (Qt.as rfl) ?_
      refine RL.nil ?_
      refine RE.sqN ?_
      refine RC.seq ?_
      refine RC.drawn 18 [0, 1, 2, 3, 4, 5, 6, 7, 8, 9, 10, 11, 12, 13, 14, 15, 16, 17] (fun w' => w'.heap[b]? = some (hC bl n cap root many)) (by kernel_rfl) (by kernel_rfl) ((by first | exact hS.drew.get 0 rfl | exact hS.drew.get 1 rfl | exact hS.drew.get 2 rfl | exact hS.drew.get 3 rfl | exact hS.drew.get 4 rfl)) (fun hh => ?_)
      replace hS := hS.drew
      refine RH.q hh (Calm.sq Calm.body) rfl (by kernel_rfl) (Qt.mv rfl) ?_
      refine RH.q hh (Calm.sq Calm.body) rfl (by kernel_rfl) (Qt.nil rfl) ?_
      refine RH.q hh (Calm.sq Calm.body) rfl (by kernel_rfl) (Qt.fld rfl) ?_
      refine RH.q hh (Calm.sq Calm.body) rfl (by kernel_rfl) (Qt.ld rfl (fun _ h => h) (by first | exact pr2 hc (by omega) (by omega) | rfl)) ?_
      refine RH.q hh (Calm.sq Calm.body) rfl (by kernel_rfl) (Qt.mv rfl) ?_
      refine RH.q hh (Calm.sq Calm.body) rfl (by kernel_rfl) (Qt.mv rfl) ?_
      refine RH.q hh (Calm.sq Calm.body) rfl (by kernel_rfl) (Qt.nil rfl) ?_
      refine RH.q hh (Calm.sq Calm.body) rfl (by kernel_rfl) (Qt.fld rfl) ?_
      refine RH.q hh (Calm.sq Calm.body) rfl (by kernel_rfl) (Qt.ld rfl (fun _ h => h) (by first | exact pr2 hc (by omega) (by omega) | rfl)) ?_
      refine RH.q hh (Calm.sq Calm.body) rfl (by kernel_rfl) (Qt.mv rfl) ?_
      refine RH.q hh (Calm.sq Calm.body) rfl (by kernel_rfl) (Qt.mv rfl) ?_
      refine RH.q hh (Calm.sq Calm.body) rfl (by kernel_rfl) (Qt.mv rfl) ?_
      refine RH.q hh (Calm.sq Calm.body) rfl (by kernel_rfl) (Qt.ixS rfl rfl (by first | assumption | omega | (dsimp only; omega)) (by first | assumption | omega | (dsimp only; omega))) ?_
      refine RH.q hh (Calm.sq Calm.body) rfl (by kernel_rfl) (Qt.fld rfl) ?_
      first | refine RH.e0 hh rfl (by kernel_rfl) (Ef.st hS 0 rfl rfl rfl (by rfl) (by rfl) (by first | exact Nat.le_of_ble_eq_true rfl | omega | (simp only [wr_size]; omega))) ?_ | refine RH.e0 hh rfl (by kernel_rfl) (Ef.st hS 1 rfl rfl rfl (by rfl) (by rfl) (by first | exact Nat.le_of_ble_eq_true rfl | omega | (simp only [wr_size]; omega))) ?_ | refine RH.e0 hh rfl (by kernel_rfl) (Ef.st hS 2 rfl rfl rfl (by rfl) (by rfl) (by first | exact Nat.le_of_ble_eq_true rfl | omega | (simp only [wr_size]; omega))) ?_
      intro _ w hS
      simp (disch := omega) only [cells_int', Nat.zero_add] at hS
      refine ⟨(by first | exact hS.get 0 rfl | exact hS.get 1 rfl | exact hS.get 2 rfl | exact hS.get 3 rfl | exact hS.get 4 rfl), ?_⟩
      refine RH.q hh (Calm.sq Calm.body) rfl (by kernel_rfl) (Qt.ixS rfl rfl (by first | assumption | omega | (dsimp only; omega)) (by first | assumption | omega | (dsimp only; omega))) ?_
      refine RH.q hh (Calm.sq Calm.body) rfl (by kernel_rfl) (Qt.fld rfl) ?_
      first | refine RH.e0 hh rfl (by kernel_rfl) (Ef.st hS 0 rfl rfl rfl (by rfl) (by rfl) (by first | exact Nat.le_of_ble_eq_true rfl | omega | (simp only [wr_size]; omega))) ?_ | refine RH.e0 hh rfl (by kernel_rfl) (Ef.st hS 1 rfl rfl rfl (by rfl) (by rfl) (by first | exact Nat.le_of_ble_eq_true rfl | omega | (simp only [wr_size]; omega))) ?_ | refine RH.e0 hh rfl (by kernel_rfl) (Ef.st hS 2 rfl rfl rfl (by rfl) (by rfl) (by first | exact Nat.le_of_ble_eq_true rfl | omega | (simp only [wr_size]; omega))) ?_
      intro _ w hS
      simp (disch := omega) only [cells_int', Nat.zero_add] at hS
      refine ⟨(by first | exact hS.get 0 rfl | exact hS.get 1 rfl | exact hS.get 2 rfl | exact hS.get 3 rfl | exact hS.get 4 rfl), ?_⟩
      refine RH.done hh (by kernel_rfl) ?_
      refine RL.nil ?_
      refine RE.sqN ?_
      refine RC.seq ?_
      refine RC.seq ?_
      refine RC.region rfl ?_
      refine RL.q (Qt.mv rfl) ?_
      refine RL.q (Qt.neq rfl rfl) ?_
      refine RL.nil ?_
      refine RE.sqN ?_
      -- stops: cond
      refine RC.cond rfl (fun h3 => ?_) (fun h3 => ?_)
      · skip
        have h3 : f.child y ≠ -1 := of_decide_eq_true h3
        have hc3 := ps4 hc2 (i := f.child y) (by omega) (by omega) x
        have hc4 := ps2 hc3 (i := y) (by omega) (by omega) x
        refine RC.region rfl ?_
        refine RL.q (Qt.mv rfl) ?_
        refine RL.q (Qt.nil rfl) ?_
        refine RL.q (Qt.fld rfl) ?_
        refine RL.q (Qt.ld rfl (by first | exact hS.at 0 rfl | exact hS.at 1 rfl | exact hS.at 2 rfl) (by first | exact pr2 hc (by omega) (by omega) | rfl)) ?_
        refine RL.q (Qt.mv rfl) ?_
        refine RL.q (Qt.mv rfl) ?_
        refine RL.q (Qt.ixS rfl rfl (by first | assumption | omega | (dsimp only; omega)) (by first | assumption | omega | (dsimp only; omega))) ?_
        refine RL.q (Qt.fld rfl) ?_
        first | refine RL.e0 (Ef.st hS 0 rfl rfl rfl (by rfl) (by rfl) (by first | exact Nat.le_of_ble_eq_true rfl | omega | (simp only [wr_size]; omega))) ?_ | refine RL.e0 (Ef.st hS 1 rfl rfl rfl (by rfl) (by rfl) (by first | exact Nat.le_of_ble_eq_true rfl | omega | (simp only [wr_size]; omega))) ?_ | refine RL.e0 (Ef.st hS 2 rfl rfl rfl (by rfl) (by rfl) (by first | exact Nat.le_of_ble_eq_true rfl | omega | (simp only [wr_size]; omega))) ?_
        intro _ w hS
        simp (disch := omega) only [cells_int', Nat.zero_add] at hS
        refine RL.nil ?_
        refine RE.sqN ?_
        refine RC.seq ?_
        refine RC.region rfl ?_
        refine RL.q (Qt.mv rfl) ?_
        refine RL.q (Qt.nil rfl) ?_
        refine RL.q (Qt.fld rfl) ?_
        refine RL.q (Qt.ld rfl (by first | exact hS.at 0 rfl | exact hS.at 1 rfl | exact hS.at 2 rfl) (by first | exact pr2 hc (by omega) (by omega) | rfl)) ?_
        refine RL.q (Qt.mv rfl) ?_
        refine RL.q (Qt.mv rfl) ?_
        refine RL.q (Qt.ixS rfl rfl (by first | assumption | omega | (dsimp only; omega)) (by first | assumption | omega | (dsimp only; omega))) ?_
        refine RL.q (Qt.fld rfl) ?_
        first | refine RL.e0 (Ef.st hS 0 rfl rfl rfl (by rfl) (by rfl) (by first | exact Nat.le_of_ble_eq_true rfl | omega | (simp only [wr_size]; omega))) ?_ | refine RL.e0 (Ef.st hS 1 rfl rfl rfl (by rfl) (by rfl) (by first | exact Nat.le_of_ble_eq_true rfl | omega | (simp only [wr_size]; omega))) ?_ | refine RL.e0 (Ef.st hS 2 rfl rfl rfl (by rfl) (by rfl) (by first | exact Nat.le_of_ble_eq_true rfl | omega | (simp only [wr_size]; omega))) ?_
        intro _ w hS
        simp (disch := omega) only [cells_int', Nat.zero_add] at hS
        refine RL.nil ?_
        refine RE.sqN ?_
        refine RC.seq ?_
        refine RC.region rfl ?_
        refine RL.q (Qt.mv rfl) ?_
        refine RL.q (Qt.as rfl) ?_
        refine RL.nil ?_
        refine RE.sqN ?_
        refine RC.ret ?_
        -- stops: end ret
        refine RE.retB rfl ⟨rfl, rfl⟩ (hS.tabShut 1 rfl ?_)
        have e2 : linkF f y x = { f with next := upd f.next x (f.child y), prev := upd (upd f.prev x y) (f.child y) x, child := upd f.child y x } := by simp [linkF, h3]
        rw [e2]; exact hc4
      · skip
        have h3 : f.child y = -1 := Classical.not_not.1 (of_decide_eq_false h3)
        have hc4 := ps2 hc2 (i := y) (by omega) (by omega) x
        refine RC.skip ?_
        refine RE.sqN ?_
        refine RC.seq ?_
        refine RC.region rfl ?_
        refine RL.q (Qt.mv rfl) ?_
        refine RL.q (Qt.nil rfl) ?_
        refine RL.q (Qt.fld rfl) ?_
        refine RL.q (Qt.ld rfl (by first | exact hS.at 0 rfl | exact hS.at 1 rfl | exact hS.at 2 rfl) (by first | exact pr2 hc (by omega) (by omega) | rfl)) ?_
        refine RL.q (Qt.mv rfl) ?_
        refine RL.q (Qt.mv rfl) ?_
        refine RL.q (Qt.ixS rfl rfl (by first | assumption | omega | (dsimp only; omega)) (by first | assumption | omega | (dsimp only; omega))) ?_
        refine RL.q (Qt.fld rfl) ?_
        first | refine RL.e0 (Ef.st hS 0 rfl rfl rfl (by rfl) (by rfl) (by first | exact Nat.le_of_ble_eq_true rfl | omega | (simp only [wr_size]; omega))) ?_ | refine RL.e0 (Ef.st hS 1 rfl rfl rfl (by rfl) (by rfl) (by first | exact Nat.le_of_ble_eq_true rfl | omega | (simp only [wr_size]; omega))) ?_ | refine RL.e0 (Ef.st hS 2 rfl rfl rfl (by rfl) (by rfl) (by first | exact Nat.le_of_ble_eq_true rfl | omega | (simp only [wr_size]; omega))) ?_
        intro _ w hS
        simp (disch := omega) only [cells_int', Nat.zero_add] at hS
        refine RL.nil ?_
        refine RE.sqN ?_
        refine RC.seq ?_
        refine RC.region rfl ?_
        refine RL.q (Qt.mv rfl) ?_
        refine RL.q (Qt.as rfl) ?_
        refine RL.nil ?_
        refine RE.sqN ?_
        refine RC.ret ?_
        -- stops: end ret
        refine RE.retB rfl ⟨rfl, rfl⟩ (hS.tabShut 1 rfl ?_)
        have e2 : linkF f y x = { f with next := upd f.next x (f.child y), prev := upd f.prev x y, child := upd f.child y x } := by simp [linkF, h3]
        rw [e2]; exact hc4
    · skip
      have e : meldF f x y = (linkF f x y, x) := by rw [meldF, if_neg h, if_neg (by rw [h2]; decide)]
      rw [e]
      obtain ⟨c, hc, hS⟩ := hS.tabOpen 1 rfl
      try simp only [List.set_cons_zero, List.set_cons_succ] at hS
      have hsz := hc.size
      have hch := (hb x (by omega) (by omega)).1
      have hc1 := ps3 hc (i := y) (by omega) (by omega) (f.child x)
      have hc2 := ps4 hc1 (i := y) (by omega) (by omega) x
      refine RC.skip ?_
      refine RE.sqN ?_
      refine RC.seq ?_
      refine RC.region rfl ?_
      refine RL.q (Qt.mv rfl) ?_
      refine RL.q (Qt.nil rfl) ?_
      refine RL.q (Qt.fld rfl) ?_
      refine RL.q (Qt.ld rfl (by first | exact hS.at 0 rfl | exact hS.at 1 rfl | exact hS.at 2 rfl) (by first | exact pr2 hc (by omega) (by omega) | rfl)) ?_
      refine RL.q (Qt.mv rfl) ?_
      refine RL.q (Qt.ixS rfl rfl (by first | assumption | omega | (dsimp only; omega)) (by first | assumption | omega | (dsimp only; omega))) ?_
      refine RL.q (Qt.fld rfl) ?_
      refine RL.q (Qt.ld rfl (by first | exact hS.at 0 rfl | exact hS.at 1 rfl | exact hS.at 2 rfl) (by first | exact pr2 hc (by omega) (by omega) | rfl)) ?_
      refine RL.q (Qt.as rfl) ?_
      refine RL.nil ?_
      refine RE.sqN ?_
      refine RC.seq ?_
      refine RC.drawn 18 [0, 1, 2, 3, 4, 5, 6, 7, 8, 9, 10, 11, 12, 13, 14, 15, 16, 17] (fun w' => w'.heap[b]? = some (hC bl n cap root many)) (by kernel_rfl) (by kernel_rfl) ((by first | exact hS.drew.get 0 rfl | exact hS.drew.get 1 rfl | exact hS.drew.get 2 rfl | exact hS.drew.get 3 rfl | exact hS.drew.get 4 rfl)) (fun hh => ?_)
      replace hS := hS.drew
      refine RH.q hh (Calm.sq Calm.body) rfl (by kernel_rfl) (Qt.mv rfl) ?_
      refine RH.q hh (Calm.sq Calm.body) rfl (by kernel_rfl) (Qt.nil rfl) ?_
      refine RH.q hh (Calm.sq Calm.body) rfl (by kernel_rfl) (Qt.fld rfl) ?_
      refine RH.q hh (Calm.sq Calm.body) rfl (by kernel_rfl) (Qt.ld rfl (fun _ h => h) (by first | exact pr2 hc (by omega) (by omega) | rfl)) ?_
      refine RH.q hh (Calm.sq Calm.body) rfl (by kernel_rfl) (Qt.mv rfl) ?_
      refine RH.q hh (Calm.sq Calm.body) rfl (by kernel_rfl) (Qt.mv rfl) ?_
      refine RH.q hh (Calm.sq Calm.body) rfl (by kernel_rfl) (Qt.nil rfl) ?_
      refine RH.q hh (Calm.sq Calm.body) rfl (by kernel_rfl) (Qt.fld rfl) ?_
      refine RH.q hh (Calm.sq Calm.body) rfl (by kernel_rfl) (Qt.ld rfl (fun _ h => h) (by first | exact pr2 hc (by omega) (by omega) | rfl)) ?_
      refine RH.q hh (Calm.sq Calm.body) rfl (by kernel_rfl) (Qt.mv rfl) ?_
      refine RH.q hh (Calm.sq Calm.body) rfl (by kernel_rfl) (Qt.mv rfl) ?_
      refine RH.q hh (Calm.sq Calm.body) rfl (by kernel_rfl) (Qt.mv rfl) ?_
      refine RH.q hh (Calm.sq Calm.body) rfl (by kernel_rfl) (Qt.ixS rfl rfl (by first | assumption | omega | (dsimp only; omega)) (by first | assumption | omega | (dsimp only; omega))) ?_
      refine RH.q hh (Calm.sq Calm.body) rfl (by kernel_rfl) (Qt.fld rfl) ?_
      first | refine RH.e0 hh rfl (by kernel_rfl) (Ef.st hS 0 rfl rfl rfl (by rfl) (by rfl) (by first | exact Nat.le_of_ble_eq_true rfl | omega | (simp only [wr_size]; omega))) ?_ | refine RH.e0 hh rfl (by kernel_rfl) (Ef.st hS 1 rfl rfl rfl (by rfl) (by rfl) (by first | exact Nat.le_of_ble_eq_true rfl | omega | (simp only [wr_size]; omega))) ?_ | refine RH.e0 hh rfl (by kernel_rfl) (Ef.st hS 2 rfl rfl rfl (by rfl) (by rfl) (by first | exact Nat.le_of_ble_eq_true rfl | omega | (simp only [wr_size]; omega))) ?_
      intro _ w hS
      simp (disch := omega) only [cells_int', Nat.zero_add] at hS
      refine ⟨(by first | exact hS.get 0 rfl | exact hS.get 1 rfl | exact hS.get 2 rfl | exact hS.get 3 rfl | exact hS.get 4 rfl), ?_⟩
      refine RH.q hh (Calm.sq Calm.body) rfl (by kernel_rfl) (Qt.ixS rfl rfl (by first | assumption | omega | (dsimp only; omega)) (by first | assumption | omega | (dsimp only; omega))) ?_
      refine RH.q hh (Calm.sq Calm.body) rfl (by kernel_rfl) (Qt.fld rfl) ?_
      first | refine RH.e0 hh rfl (by kernel_rfl) (Ef.st hS 0 rfl rfl rfl (by rfl) (by rfl) (by first | exact Nat.le_of_ble_eq_true rfl | omega | (simp only [wr_size]; omega))) ?_ | refine RH.e0 hh rfl (by kernel_rfl) (Ef.st hS 1 rfl rfl rfl (by rfl) (by rfl) (by first | exact Nat.le_of_ble_eq_true rfl | omega | (simp only [wr_size]; omega))) ?_ | refine RH.e0 hh rfl (by kernel_rfl) (Ef.st hS 2 rfl rfl rfl (by rfl) (by rfl) (by first | exact Nat.le_of_ble_eq_true rfl | omega | (simp only [wr_size]; omega))) ?_
      intro _ w hS
      simp (disch := omega) only [cells_int', Nat.zero_add] at hS
      refine ⟨(by first | exact hS.get 0 rfl | exact hS.get 1 rfl | exact hS.get 2 rfl | exact hS.get 3 rfl | exact hS.get 4 rfl), ?_⟩
      refine RH.done hh (by kernel_rfl) ?_
      refine RL.nil ?_
      refine RE.sqN ?_
      refine RC.seq ?_
      refine RC.seq ?_
      refine RC.region rfl ?_
      refine RL.q (Qt.mv rfl) ?_
      refine RL.q (Qt.neq rfl rfl) ?_
      refine RL.nil ?_
      refine RE.sqN ?_
      -- stops: cond
      refine RC.cond rfl (fun h3 => ?_) (fun h3 => ?_)
      · skip
        have h3 : f.child x ≠ -1 := of_decide_eq_true h3
        have hc3 := ps4 hc2 (i := f.child x) (by omega) (by omega) y
        have hc4 := ps2 hc3 (i := x) (by omega) (by omega) y
        refine RC.region rfl ?_
        refine RL.q (Qt.mv rfl) ?_
        refine RL.q (Qt.nil rfl) ?_
        refine RL.q (Qt.fld rfl) ?_
        refine RL.q (Qt.ld rfl (by first | exact hS.at 0 rfl | exact hS.at 1 rfl | exact hS.at 2 rfl) (by first | exact pr2 hc (by omega) (by omega) | rfl)) ?_
        refine RL.q (Qt.mv rfl) ?_
        refine RL.q (Qt.mv rfl) ?_
        refine RL.q (Qt.ixS rfl rfl (by first | assumption | omega | (dsimp only; omega)) (by first | assumption | omega | (dsimp only; omega))) ?_
        refine RL.q (Qt.fld rfl) ?_
        first | refine RL.e0 (Ef.st hS 0 rfl rfl rfl (by rfl) (by rfl) (by first | exact Nat.le_of_ble_eq_true rfl | omega | (simp only [wr_size]; omega))) ?_ | refine RL.e0 (Ef.st hS 1 rfl rfl rfl (by rfl) (by rfl) (by first | exact Nat.le_of_ble_eq_true rfl | omega | (simp only [wr_size]; omega))) ?_ | refine RL.e0 (Ef.st hS 2 rfl rfl rfl (by rfl) (by rfl) (by first | exact Nat.le_of_ble_eq_true rfl | omega | (simp only [wr_size]; omega))) ?_
        intro _ w hS
        simp (disch := omega) only [cells_int', Nat.zero_add] at hS
        refine RL.nil ?_
        refine RE.sqN ?_
        refine RC.seq ?_
        refine RC.region rfl ?_
        refine RL.q (Qt.mv rfl) ?_
        refine RL.q (Qt.nil rfl) ?_
        refine RL.q (Qt.fld rfl) ?_
        refine RL.q (Qt.ld rfl (by first | exact hS.at 0 rfl | exact hS.at 1 rfl | exact hS.at 2 rfl) (by first | exact pr2 hc (by omega) (by omega) | rfl)) ?_
        refine RL.q (Qt.mv rfl) ?_
        refine RL.q (Qt.mv rfl) ?_
        refine RL.q (Qt.ixS rfl rfl (by first | assumption | omega | (dsimp only; omega)) (by first | assumption | omega | (dsimp only; omega))) ?_
        refine RL.q (Qt.fld rfl) ?_
        first | refine RL.e0 (Ef.st hS 0 rfl rfl rfl (by rfl) (by rfl) (by first | exact Nat.le_of_ble_eq_true rfl | omega | (simp only [wr_size]; omega))) ?_ | refine RL.e0 (Ef.st hS 1 rfl rfl rfl (by rfl) (by rfl) (by first | exact Nat.le_of_ble_eq_true rfl | omega | (simp only [wr_size]; omega))) ?_ | refine RL.e0 (Ef.st hS 2 rfl rfl rfl (by rfl) (by rfl) (by first | exact Nat.le_of_ble_eq_true rfl | omega | (simp only [wr_size]; omega))) ?_
        intro _ w hS
        simp (disch := omega) only [cells_int', Nat.zero_add] at hS
        refine RL.nil ?_
        refine RE.sqN ?_
        refine RC.seq ?_
        refine RC.region rfl ?_
        refine RL.q (Qt.mv rfl) ?_
        refine RL.q (Qt.as rfl) ?_
        refine RL.nil ?_
        refine RE.sqN ?_
        refine RC.ret ?_
        -- stops: end ret
        refine RE.retB rfl ⟨rfl, rfl⟩ (hS.tabShut 1 rfl ?_)
        have e2 : linkF f x y = { f with next := upd f.next y (f.child x), prev := upd (upd f.prev y x) (f.child x) y, child := upd f.child x y } := by simp [linkF, h3]
        rw [e2]; exact hc4
      · skip
        have h3 : f.child x = -1 := Classical.not_not.1 (of_decide_eq_false h3)
        have hc4 := ps2 hc2 (i := x) (by omega) (by omega) y
        refine RC.skip ?_
        refine RE.sqN ?_
        refine RC.seq ?_
        refine RC.region rfl ?_
        refine RL.q (Qt.mv rfl) ?_
        refine RL.q (Qt.nil rfl) ?_
        refine RL.q (Qt.fld rfl) ?_
        refine RL.q (Qt.ld rfl (by first | exact hS.at 0 rfl | exact hS.at 1 rfl | exact hS.at 2 rfl) (by first | exact pr2 hc (by omega) (by omega) | rfl)) ?_
        refine RL.q (Qt.mv rfl) ?_
        refine RL.q (Qt.mv rfl) ?_
        refine RL.q (Qt.ixS rfl rfl (by first | assumption | omega | (dsimp only; omega)) (by first | assumption | omega | (dsimp only; omega))) ?_
        refine RL.q (Qt.fld rfl) ?_
        first | refine RL.e0 (Ef.st hS 0 rfl rfl rfl (by rfl) (by rfl) (by first | exact Nat.le_of_ble_eq_true rfl | omega | (simp only [wr_size]; omega))) ?_ | refine RL.e0 (Ef.st hS 1 rfl rfl rfl (by rfl) (by rfl) (by first | exact Nat.le_of_ble_eq_true rfl | omega | (simp only [wr_size]; omega))) ?_ | refine RL.e0 (Ef.st hS 2 rfl rfl rfl (by rfl) (by rfl) (by first | exact Nat.le_of_ble_eq_true rfl | omega | (simp only [wr_size]; omega))) ?_
        intro _ w hS
        simp (disch := omega) only [cells_int', Nat.zero_add] at hS
        refine RL.nil ?_
        refine RE.sqN ?_
        refine RC.seq ?_
        refine RC.region rfl ?_
        refine RL.q (Qt.mv rfl) ?_
        refine RL.q (Qt.as rfl) ?_
        refine RL.nil ?_
        refine RE.sqN ?_
        refine RC.ret ?_
        -- stops: end ret
        refine RE.retB rfl ⟨rfl, rfl⟩ (hS.tabShut 1 rfl ?_)
        have e2 : linkF f x y = { f with next := upd f.next y (f.child x), prev := upd f.prev y x, child := upd f.child x y } := by simp [linkF, h3]
        rw [e2]; exact hc4

set_option maxHeartbeats 1000000 in
theorem phLoose (b bl n cap : Nat) (f : PH) (root many x : Int) (hx : 0 ≤ x ∧ x < n) : Ct Try.prog 144 #[.pointer (some ⟨b, 0, none⟩), .int .i64 x] [pt b (hC bl n cap root many), hT bl n f]
    (fun v ps => v = .tuple #[] ∧ ps = [pt b (hC bl n cap root many), hT bl n (looseF f x)]) := by
  refine Ct.enter Try.func144 rfl (Nat.le_of_ble_eq_true rfl) ?_
  intro oo w R hS
  change RC _ _ _ _ _ _ [(0, _), (1, _)] _
  obtain ⟨c, hc, hS⟩ := hS.tabOpen 1 rfl
  try simp only [List.set_cons_zero, List.set_cons_succ] at hS
  have hsz := hc.size
  have hc1 := ps3 hc (i := x) (by omega) (by omega) (-1)
  have hc2 := ps4 hc1 (i := x) (by omega) (by omega) (-1)
  refine RC.drawn 16 [0, 1, 2, 3, 4, 5, 6, 7, 8, 9, 10, 11, 12, 13, 14, 15] (fun w' => w'.heap[b]? = some (hC bl n cap root many)) (by kernel_rfl) (by kernel_rfl) ((by first | exact hS.drew.get 0 rfl | exact hS.drew.get 1 rfl | exact hS.drew.get 2 rfl | exact hS.drew.get 3 rfl | exact hS.drew.get 4 rfl)) (fun hh => ?_)
  replace hS := hS.drew
  refine RH.q hh Calm.body rfl (by kernel_rfl) (Qt.mv rfl) ?_
  refine RH.q hh Calm.body rfl (by kernel_rfl) (Qt.nil rfl) ?_
  refine RH.q hh Calm.body rfl (by kernel_rfl) (Qt.fld rfl) ?_
  refine RH.q hh Calm.body rfl (by kernel_rfl) (Qt.ld rfl (fun _ h => h) (by first  | rfl)) ?_
  refine RH.q hh Calm.body rfl (by kernel_rfl) (Qt.mv rfl) ?_
  refine RH.q hh Calm.body rfl (by kernel_rfl) (Qt.mv rfl) ?_
  refine RH.q hh Calm.body rfl (by kernel_rfl) (Qt.nil rfl) ?_
  refine RH.q hh Calm.body rfl (by kernel_rfl) (Qt.fld rfl) ?_
  refine RH.q hh Calm.body rfl (by kernel_rfl) (Qt.ld rfl (fun _ h => h) (by first  | rfl)) ?_
  refine RH.q hh Calm.body rfl (by kernel_rfl) (Qt.mv rfl) ?_
  refine RH.q hh Calm.body rfl (by kernel_rfl) (Qt.ixS rfl rfl (by first | assumption | omega | (dsimp only; omega)) (by first | assumption | omega | (dsimp only; omega))) ?_
  refine RH.q hh Calm.body rfl (by kernel_rfl) (Qt.fld rfl) ?_
  first | refine RH.e0 hh rfl (by kernel_rfl) (Ef.st hS 0 rfl rfl rfl (by rfl) (by rfl) (by first | exact Nat.le_of_ble_eq_true rfl | omega | (simp only [wr_size]; omega))) ?_ | refine RH.e0 hh rfl (by kernel_rfl) (Ef.st hS 1 rfl rfl rfl (by rfl) (by rfl) (by first | exact Nat.le_of_ble_eq_true rfl | omega | (simp only [wr_size]; omega))) ?_ | refine RH.e0 hh rfl (by kernel_rfl) (Ef.st hS 2 rfl rfl rfl (by rfl) (by rfl) (by first | exact Nat.le_of_ble_eq_true rfl | omega | (simp only [wr_size]; omega))) ?_
  intro _ w hS
  simp (disch := omega) only [cells_int', Nat.zero_add] at hS
  refine ⟨(by first | exact hS.get 0 rfl | exact hS.get 1 rfl | exact hS.get 2 rfl | exact hS.get 3 rfl | exact hS.get 4 rfl), ?_⟩
  refine RH.q hh Calm.body rfl (by kernel_rfl) (Qt.ixS rfl rfl (by first | assumption | omega | (dsimp only; omega)) (by first | assumption | omega | (dsimp only; omega))) ?_
  refine RH.q hh Calm.body rfl (by kernel_rfl) (Qt.fld rfl) ?_
  first | refine RH.e0 hh rfl (by kernel_rfl) (Ef.st hS 0 rfl rfl rfl (by rfl) (by rfl) (by first | exact Nat.le_of_ble_eq_true rfl | omega | (simp only [wr_size]; omega))) ?_ | refine RH.e0 hh rfl (by kernel_rfl) (Ef.st hS 1 rfl rfl rfl (by rfl) (by rfl) (by first | exact Nat.le_of_ble_eq_true rfl | omega | (simp only [wr_size]; omega))) ?_ | refine RH.e0 hh rfl (by kernel_rfl) (Ef.st hS 2 rfl rfl rfl (by rfl) (by rfl) (by first | exact Nat.le_of_ble_eq_true rfl | omega | (simp only [wr_size]; omega))) ?_
  intro _ w hS
  simp (disch := omega) only [cells_int', Nat.zero_add] at hS
  refine ⟨(by first | exact hS.get 0 rfl | exact hS.get 1 rfl | exact hS.get 2 rfl | exact hS.get 3 rfl | exact hS.get 4 rfl), ?_⟩
  refine RH.done hh (by kernel_rfl) ?_
  refine RL.nil ?_
  -- stops: end normal
  exact RE.endB rfl ⟨rfl, rfl⟩ (hS.tabShut 1 rfl hc2)
end Go.Proofs

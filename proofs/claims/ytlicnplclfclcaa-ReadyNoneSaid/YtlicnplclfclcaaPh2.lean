/- The heap of deadlines: cut, out, Insert, Change, Delete, Min, Take, Get, Len. -/
import Derived.Test.YtlicnplclfclcaaPhG
namespace Go.Proofs
open Go Go.Gx
variable {oo : World}

set_option maxHeartbeats 4000000 in
theorem phCut (b bl n cap : Nat) (f : PH) (root many x : Int) (hb : Bd n f) (hx : 0 ≤ x ∧ x < n) : Ct Try.prog 125 #[.pointer (some ⟨b, 0, none⟩), .int .i64 x] [pt b (hC bl n cap root many), hT bl n f]
    (fun v ps => v = .tuple #[] ∧ ps = [pt b (hC bl n cap root many), hT bl n (cutF f x)]) := by
  refine Ct.enter Try.func125 rfl (Nat.le_of_ble_eq_true rfl) ?_
  intro oo w R hS
  change RC _ _ _ _ _ _ [(0, _), (1, _)] _
  obtain ⟨c, hc, hS⟩ := hS.tabOpen 1 rfl
  have hsz := hc.size
  have hrx := prR hc hx.1 hx.2
  obtain ⟨hbc, hbn, hbp⟩ := hb x hx.1 hx.2
  refine RC.seq ?_
  refine RC.region rfl ?_
  refine RL.q (Qt.mv rfl) ?_
  refine RL.q (Qt.nil rfl) ?_
  refine RL.q (Qt.fld rfl) ?_
  refine RL.q (Qt.ld rfl (by first | exact hS.at 0 rfl | exact hS.at 1 rfl | exact hS.at 2 rfl) (by first  | rfl)) ?_
  refine RL.q (Qt.mv rfl) ?_
  refine RL.q (Qt.ixS rfl rfl (by first | assumption | omega | (dsimp only; omega)) (by first | assumption | omega | (dsimp only; omega))) ?_
  refine RL.q (Qt.ldA rfl (by first | exact hS.at 0 rfl | exact hS.at 1 rfl | exact hS.at 2 rfl) (by first | exact hrx | rfl) (by first | exact Nat.le_of_ble_eq_true rfl | omega | (simp only [wr_size]; omega))) ?_
  refine RL.e (Ef.alloc hS) ?_
  rintro _ w ⟨b4, rfl, hS⟩
  try simp (disch := omega) only [cells_agg'] at hS
  first | refine RL.e0 (Ef.st hS 0 rfl rfl rfl (by rfl) (by rfl) (by first | exact Nat.le_of_ble_eq_true rfl | omega | (simp only [wr_size]; omega))) ?_ | refine RL.e0 (Ef.st hS 1 rfl rfl rfl (by rfl) (by rfl) (by first | exact Nat.le_of_ble_eq_true rfl | omega | (simp only [wr_size]; omega))) ?_ | refine RL.e0 (Ef.st hS 2 rfl rfl rfl (by rfl) (by rfl) (by first | exact Nat.le_of_ble_eq_true rfl | omega | (simp only [wr_size]; omega))) ?_ | refine RL.e0 (Ef.st hS 3 rfl rfl rfl (by rfl) (by rfl) (by first | exact Nat.le_of_ble_eq_true rfl | omega | (simp only [wr_size]; omega))) ?_
  intro _ w hS
  simp (disch := omega) only [List.set_cons_zero, List.set_cons_succ, cells_agg', Nat.zero_add, wr, List.setIfInBounds_toArray] at hS
  refine RL.nil ?_
  refine RE.sqN ?_
  refine RC.seq ?_
  refine RC.seq ?_
  refine RC.region rfl ?_
  refine RL.q (Qt.fld rfl) ?_
  refine RL.q (Qt.ld rfl (by first | exact hS.at 0 rfl | exact hS.at 1 rfl | exact hS.at 2 rfl | exact hS.at 3 rfl) (by first  | rfl)) ?_
  refine RL.q (Qt.neq rfl rfl) ?_
  refine RL.nil ?_
  refine RE.sqN ?_
  -- stops: cond
  refine RC.cond rfl (fun h => ?_) (fun h => ?_)
  · skip
    have h : f.prev x ≠ -1 := of_decide_eq_true h
    have hp : 0 ≤ f.prev x ∧ f.prev x < n := by omega
    refine RC.seq ?_
    refine RC.drawn 11 [0, 1, 2, 3, 4, 5, 6, 7, 8, 9, 10] (Same _) (by kernel_rfl) (by kernel_rfl) Same.drew (fun hh => ?_)
    replace hS := hS.drew
    refine RH.q hh (Calm.sq (Calm.sq Calm.body)) rfl (by kernel_rfl) (Qt.mv rfl) ?_
    refine RH.q hh (Calm.sq (Calm.sq Calm.body)) rfl (by kernel_rfl) (Qt.nil rfl) ?_
    refine RH.q hh (Calm.sq (Calm.sq Calm.body)) rfl (by kernel_rfl) (Qt.fld rfl) ?_
    refine RH.q hh (Calm.sq (Calm.sq Calm.body)) rfl (by kernel_rfl) (Qt.ld rfl (by first | exact hS.at 0 rfl | exact hS.at 1 rfl | exact hS.at 2 rfl | exact hS.at 3 rfl) (by first | exact pr2 hc hp.1 hp.2 | rfl)) ?_
    refine RH.q hh (Calm.sq (Calm.sq Calm.body)) rfl (by kernel_rfl) (Qt.fld rfl) ?_
    refine RH.q hh (Calm.sq (Calm.sq Calm.body)) rfl (by kernel_rfl) (Qt.ld rfl (by first | exact hS.at 0 rfl | exact hS.at 1 rfl | exact hS.at 2 rfl | exact hS.at 3 rfl) (by first | exact pr2 hc hp.1 hp.2 | rfl)) ?_
    refine RH.q hh (Calm.sq (Calm.sq Calm.body)) rfl (by kernel_rfl) (Qt.ixS rfl rfl (by first | assumption | omega | (dsimp only; omega)) (by first | assumption | omega | (dsimp only; omega))) ?_
    refine RH.q hh (Calm.sq (Calm.sq Calm.body)) rfl (by kernel_rfl) (Qt.fld rfl) ?_
    refine RH.q hh (Calm.sq (Calm.sq Calm.body)) rfl (by kernel_rfl) (Qt.ld rfl (by first | exact hS.at 0 rfl | exact hS.at 1 rfl | exact hS.at 2 rfl | exact hS.at 3 rfl) (by first | exact pr2 hc hp.1 hp.2 | rfl)) ?_
    refine RH.q hh (Calm.sq (Calm.sq Calm.body)) rfl (by kernel_rfl) (Qt.mv rfl) ?_
    refine RH.q hh (Calm.sq (Calm.sq Calm.body)) rfl (by kernel_rfl) (Qt.eql rfl rfl) ?_
    refine RH.done hh (by kernel_rfl) ?_
    refine RL.nil ?_
    refine RE.sqN ?_
    -- stops: cond
    refine RC.cond rfl (fun h2 => ?_) (fun h2 => ?_)
    · skip
      have h2 : f.child (f.prev x) = x := of_decide_eq_true h2
      have hc1 := ps2 hc hp.1 hp.2 (f.next x)
      refine RC.drawn 10 [0, 1, 2, 3, 4, 5, 6, 7, 8, 9] (Same _) (by kernel_rfl) (by kernel_rfl) Same.drew (fun hh => ?_)
      replace hS := hS.drew
      refine RH.q hh (Calm.sq Calm.body) rfl (by kernel_rfl) (Qt.mv rfl) ?_
      refine RH.q hh (Calm.sq Calm.body) rfl (by kernel_rfl) (Qt.nil rfl) ?_
      refine RH.q hh (Calm.sq Calm.body) rfl (by kernel_rfl) (Qt.fld rfl) ?_
      refine RH.q hh (Calm.sq Calm.body) rfl (by kernel_rfl) (Qt.ld rfl (by first | exact hS.at 0 rfl | exact hS.at 1 rfl | exact hS.at 2 rfl | exact hS.at 3 rfl) (by first | exact pr2 hc hp.1 hp.2 | rfl)) ?_
      refine RH.q hh (Calm.sq Calm.body) rfl (by kernel_rfl) (Qt.fld rfl) ?_
      refine RH.q hh (Calm.sq Calm.body) rfl (by kernel_rfl) (Qt.ld rfl (by first | exact hS.at 0 rfl | exact hS.at 1 rfl | exact hS.at 2 rfl | exact hS.at 3 rfl) (by first | exact pr2 hc hp.1 hp.2 | rfl)) ?_
      refine RH.q hh (Calm.sq Calm.body) rfl (by kernel_rfl) (Qt.fld rfl) ?_
      refine RH.q hh (Calm.sq Calm.body) rfl (by kernel_rfl) (Qt.ld rfl (by first | exact hS.at 0 rfl | exact hS.at 1 rfl | exact hS.at 2 rfl | exact hS.at 3 rfl) (by first | exact pr2 hc hp.1 hp.2 | rfl)) ?_
      refine RH.q hh (Calm.sq Calm.body) rfl (by kernel_rfl) (Qt.ixS rfl rfl (by first | assumption | omega | (dsimp only; omega)) (by first | assumption | omega | (dsimp only; omega))) ?_
      refine RH.q hh (Calm.sq Calm.body) rfl (by kernel_rfl) (Qt.fld rfl) ?_
      refine RH.done hh (by kernel_rfl) ?_
      first | refine RL.e0 (Ef.st hS 0 rfl rfl rfl (by rfl) (by rfl) (by first | exact Nat.le_of_ble_eq_true rfl | omega | (simp only [wr_size]; omega))) ?_ | refine RL.e0 (Ef.st hS 1 rfl rfl rfl (by rfl) (by rfl) (by first | exact Nat.le_of_ble_eq_true rfl | omega | (simp only [wr_size]; omega))) ?_ | refine RL.e0 (Ef.st hS 2 rfl rfl rfl (by rfl) (by rfl) (by first | exact Nat.le_of_ble_eq_true rfl | omega | (simp only [wr_size]; omega))) ?_ | refine RL.e0 (Ef.st hS 3 rfl rfl rfl (by rfl) (by rfl) (by first | exact Nat.le_of_ble_eq_true rfl | omega | (simp only [wr_size]; omega))) ?_
      intro _ w hS
      simp (disch := omega) only [List.set_cons_succ, cells_int', Nat.zero_add] at hS
      refine RL.nil ?_
      refine RE.sqN ?_
      refine RC.seq ?_
      refine RC.seq ?_
      refine RC.region rfl ?_
      refine RL.q (Qt.fld rfl) ?_
      refine RL.q (Qt.ld rfl (by first | exact hS.at 0 rfl | exact hS.at 1 rfl | exact hS.at 2 rfl | exact hS.at 3 rfl) (by first | exact pr2 hc hp.1 hp.2 | rfl)) ?_
      refine RL.q (Qt.neq rfl rfl) ?_
      refine RL.nil ?_
      refine RE.sqN ?_
      -- stops: cond
      refine RC.cond rfl (fun h3 => ?_) (fun h3 => ?_)
      · skip
        have h3 : f.next x ≠ -1 := of_decide_eq_true h3
        have hn : 0 ≤ f.next x ∧ f.next x < n := by omega
        have hc2 := ps4 hc1 hn.1 hn.2 (f.prev x)
        refine RC.drawn 10 [0, 1, 2, 3, 4, 5, 6, 7, 8, 9] (Same _) (by kernel_rfl) (by kernel_rfl) Same.drew (fun hh => ?_)
        replace hS := hS.drew
        refine RH.q hh (Calm.sq Calm.body) rfl (by kernel_rfl) (Qt.mv rfl) ?_
        refine RH.q hh (Calm.sq Calm.body) rfl (by kernel_rfl) (Qt.nil rfl) ?_
        refine RH.q hh (Calm.sq Calm.body) rfl (by kernel_rfl) (Qt.fld rfl) ?_
        refine RH.q hh (Calm.sq Calm.body) rfl (by kernel_rfl) (Qt.ld rfl (by first | exact hS.at 0 rfl | exact hS.at 1 rfl | exact hS.at 2 rfl | exact hS.at 3 rfl) (by first | exact pr2 hc hp.1 hp.2 | rfl)) ?_
        refine RH.q hh (Calm.sq Calm.body) rfl (by kernel_rfl) (Qt.fld rfl) ?_
        refine RH.q hh (Calm.sq Calm.body) rfl (by kernel_rfl) (Qt.ld rfl (by first | exact hS.at 0 rfl | exact hS.at 1 rfl | exact hS.at 2 rfl | exact hS.at 3 rfl) (by first | exact pr2 hc hp.1 hp.2 | rfl)) ?_
        refine RH.q hh (Calm.sq Calm.body) rfl (by kernel_rfl) (Qt.fld rfl) ?_
        refine RH.q hh (Calm.sq Calm.body) rfl (by kernel_rfl) (Qt.ld rfl (by first | exact hS.at 0 rfl | exact hS.at 1 rfl | exact hS.at 2 rfl | exact hS.at 3 rfl) (by first | exact pr2 hc hp.1 hp.2 | rfl)) ?_
        refine RH.q hh (Calm.sq Calm.body) rfl (by kernel_rfl) (Qt.ixS rfl rfl (by first | assumption | omega | (dsimp only; omega)) (by first | assumption | omega | (dsimp only; omega))) ?_
        refine RH.q hh (Calm.sq Calm.body) rfl (by kernel_rfl) (Qt.fld rfl) ?_
        refine RH.done hh (by kernel_rfl) ?_
        first | refine RL.e0 (Ef.st hS 0 rfl rfl rfl (by rfl) (by rfl) (by first | exact Nat.le_of_ble_eq_true rfl | omega | (simp only [wr_size]; omega))) ?_ | refine RL.e0 (Ef.st hS 1 rfl rfl rfl (by rfl) (by rfl) (by first | exact Nat.le_of_ble_eq_true rfl | omega | (simp only [wr_size]; omega))) ?_ | refine RL.e0 (Ef.st hS 2 rfl rfl rfl (by rfl) (by rfl) (by first | exact Nat.le_of_ble_eq_true rfl | omega | (simp only [wr_size]; omega))) ?_ | refine RL.e0 (Ef.st hS 3 rfl rfl rfl (by rfl) (by rfl) (by first | exact Nat.le_of_ble_eq_true rfl | omega | (simp only [wr_size]; omega))) ?_
        intro _ w hS
        simp (disch := omega) only [List.set_cons_succ, cells_int', Nat.zero_add] at hS
        refine RL.nil ?_
        refine RE.sqN ?_
        refine RC.region rfl ?_
        refine RL.q (Qt.mv rfl) ?_
        refine RL.q (Qt.mv rfl) ?_
        -- stops: op call
        have hS := (hS.pick [1, 2, 0, 3] (by decide) rfl).tabShut 1 rfl hc2
        refine RL.e (Ef.call hS (phLoose b bl n cap _ root many x hx) rfl rfl Try.call144 [0, 1] [2, 3] (by decide) rfl rfl) ?_
        rintro v61 w ⟨ps, ⟨rfl, rfl⟩, hS⟩
        refine RL.nil ?_
        -- stops: end normal
        have e1 : cutF f x = looseF { f with child := upd f.child (f.prev x) (f.next x), prev := upd f.prev (f.next x) (f.prev x) } x := by simp [cutF, h, h2, h3]
        rw [e1]
        exact RE.endB rfl ⟨rfl, rfl⟩ (hS.pick [0, 1, 3] (by decide) rfl)
      · skip
        have h3 : f.next x = -1 := Classical.not_not.1 (of_decide_eq_false h3)
        refine RC.skip ?_
        refine RE.sqN ?_
        refine RC.region rfl ?_
        refine RL.q (Qt.mv rfl) ?_
        refine RL.q (Qt.mv rfl) ?_
        -- stops: op call
        have hS := (hS.pick [1, 2, 0, 3] (by decide) rfl).tabShut 1 rfl hc1
        refine RL.e (Ef.call hS (phLoose b bl n cap _ root many x hx) rfl rfl Try.call144 [0, 1] [2, 3] (by decide) rfl rfl) ?_
        rintro v61 w ⟨ps, ⟨rfl, rfl⟩, hS⟩
        refine RL.nil ?_
        -- stops: end normal
        have e1 : cutF f x = looseF { f with child := upd f.child (f.prev x) (f.next x) } x := by simp [cutF, h, h2, h3]
        rw [e1]
        exact RE.endB rfl ⟨rfl, rfl⟩ (hS.pick [0, 1, 3] (by decide) rfl)
    · skip
      have h2 : f.child (f.prev x) ≠ x := of_decide_eq_false h2
      have hc1 := ps3 hc hp.1 hp.2 (f.next x)
      refine RC.drawn 10 [0, 1, 2, 3, 4, 5, 6, 7, 8, 9] (Same _) (by kernel_rfl) (by kernel_rfl) Same.drew (fun hh => ?_)
      replace hS := hS.drew
      refine RH.q hh (Calm.sq Calm.body) rfl (by kernel_rfl) (Qt.mv rfl) ?_
      refine RH.q hh (Calm.sq Calm.body) rfl (by kernel_rfl) (Qt.nil rfl) ?_
      refine RH.q hh (Calm.sq Calm.body) rfl (by kernel_rfl) (Qt.fld rfl) ?_
      refine RH.q hh (Calm.sq Calm.body) rfl (by kernel_rfl) (Qt.ld rfl (by first | exact hS.at 0 rfl | exact hS.at 1 rfl | exact hS.at 2 rfl | exact hS.at 3 rfl) (by first | exact pr2 hc hp.1 hp.2 | rfl)) ?_
      refine RH.q hh (Calm.sq Calm.body) rfl (by kernel_rfl) (Qt.fld rfl) ?_
      refine RH.q hh (Calm.sq Calm.body) rfl (by kernel_rfl) (Qt.ld rfl (by first | exact hS.at 0 rfl | exact hS.at 1 rfl | exact hS.at 2 rfl | exact hS.at 3 rfl) (by first | exact pr2 hc hp.1 hp.2 | rfl)) ?_
      refine RH.q hh (Calm.sq Calm.body) rfl (by kernel_rfl) (Qt.fld rfl) ?_
      refine RH.q hh (Calm.sq Calm.body) rfl (by kernel_rfl) (Qt.ld rfl (by first | exact hS.at 0 rfl | exact hS.at 1 rfl | exact hS.at 2 rfl | exact hS.at 3 rfl) (by first | exact pr2 hc hp.1 hp.2 | rfl)) ?_
      refine RH.q hh (Calm.sq Calm.body) rfl (by kernel_rfl) (Qt.ixS rfl rfl (by first | assumption | omega | (dsimp only; omega)) (by first | assumption | omega | (dsimp only; omega))) ?_
      refine RH.q hh (Calm.sq Calm.body) rfl (by kernel_rfl) (Qt.fld rfl) ?_
      refine RH.done hh (by kernel_rfl) ?_
      first | refine RL.e0 (Ef.st hS 0 rfl rfl rfl (by rfl) (by rfl) (by first | exact Nat.le_of_ble_eq_true rfl | omega | (simp only [wr_size]; omega))) ?_ | refine RL.e0 (Ef.st hS 1 rfl rfl rfl (by rfl) (by rfl) (by first | exact Nat.le_of_ble_eq_true rfl | omega | (simp only [wr_size]; omega))) ?_ | refine RL.e0 (Ef.st hS 2 rfl rfl rfl (by rfl) (by rfl) (by first | exact Nat.le_of_ble_eq_true rfl | omega | (simp only [wr_size]; omega))) ?_ | refine RL.e0 (Ef.st hS 3 rfl rfl rfl (by rfl) (by rfl) (by first | exact Nat.le_of_ble_eq_true rfl | omega | (simp only [wr_size]; omega))) ?_
      intro _ w hS
      simp (disch := omega) only [List.set_cons_succ, cells_int', Nat.zero_add] at hS
      refine RL.nil ?_
      refine RE.sqN ?_
      refine RC.seq ?_
      refine RC.seq ?_
      refine RC.region rfl ?_
      refine RL.q (Qt.fld rfl) ?_
      refine RL.q (Qt.ld rfl (by first | exact hS.at 0 rfl | exact hS.at 1 rfl | exact hS.at 2 rfl | exact hS.at 3 rfl) (by first | exact pr2 hc hp.1 hp.2 | rfl)) ?_
      refine RL.q (Qt.neq rfl rfl) ?_
      refine RL.nil ?_
      refine RE.sqN ?_
      -- stops: cond
      refine RC.cond rfl (fun h3 => ?_) (fun h3 => ?_)
      · skip
        have h3 : f.next x ≠ -1 := of_decide_eq_true h3
        have hn : 0 ≤ f.next x ∧ f.next x < n := by omega
        have hc2 := ps4 hc1 hn.1 hn.2 (f.prev x)
        refine RC.drawn 10 [0, 1, 2, 3, 4, 5, 6, 7, 8, 9] (Same _) (by kernel_rfl) (by kernel_rfl) Same.drew (fun hh => ?_)
        replace hS := hS.drew
        refine RH.q hh (Calm.sq Calm.body) rfl (by kernel_rfl) (Qt.mv rfl) ?_
        refine RH.q hh (Calm.sq Calm.body) rfl (by kernel_rfl) (Qt.nil rfl) ?_
        refine RH.q hh (Calm.sq Calm.body) rfl (by kernel_rfl) (Qt.fld rfl) ?_
        refine RH.q hh (Calm.sq Calm.body) rfl (by kernel_rfl) (Qt.ld rfl (by first | exact hS.at 0 rfl | exact hS.at 1 rfl | exact hS.at 2 rfl | exact hS.at 3 rfl) (by first | exact pr2 hc hp.1 hp.2 | rfl)) ?_
        refine RH.q hh (Calm.sq Calm.body) rfl (by kernel_rfl) (Qt.fld rfl) ?_
        refine RH.q hh (Calm.sq Calm.body) rfl (by kernel_rfl) (Qt.ld rfl (by first | exact hS.at 0 rfl | exact hS.at 1 rfl | exact hS.at 2 rfl | exact hS.at 3 rfl) (by first | exact pr2 hc hp.1 hp.2 | rfl)) ?_
        refine RH.q hh (Calm.sq Calm.body) rfl (by kernel_rfl) (Qt.fld rfl) ?_
        refine RH.q hh (Calm.sq Calm.body) rfl (by kernel_rfl) (Qt.ld rfl (by first | exact hS.at 0 rfl | exact hS.at 1 rfl | exact hS.at 2 rfl | exact hS.at 3 rfl) (by first | exact pr2 hc hp.1 hp.2 | rfl)) ?_
        refine RH.q hh (Calm.sq Calm.body) rfl (by kernel_rfl) (Qt.ixS rfl rfl (by first | assumption | omega | (dsimp only; omega)) (by first | assumption | omega | (dsimp only; omega))) ?_
        refine RH.q hh (Calm.sq Calm.body) rfl (by kernel_rfl) (Qt.fld rfl) ?_
        refine RH.done hh (by kernel_rfl) ?_
        first | refine RL.e0 (Ef.st hS 0 rfl rfl rfl (by rfl) (by rfl) (by first | exact Nat.le_of_ble_eq_true rfl | omega | (simp only [wr_size]; omega))) ?_ | refine RL.e0 (Ef.st hS 1 rfl rfl rfl (by rfl) (by rfl) (by first | exact Nat.le_of_ble_eq_true rfl | omega | (simp only [wr_size]; omega))) ?_ | refine RL.e0 (Ef.st hS 2 rfl rfl rfl (by rfl) (by rfl) (by first | exact Nat.le_of_ble_eq_true rfl | omega | (simp only [wr_size]; omega))) ?_ | refine RL.e0 (Ef.st hS 3 rfl rfl rfl (by rfl) (by rfl) (by first | exact Nat.le_of_ble_eq_true rfl | omega | (simp only [wr_size]; omega))) ?_
        intro _ w hS
        simp (disch := omega) only [List.set_cons_succ, cells_int', Nat.zero_add] at hS
        refine RL.nil ?_
        refine RE.sqN ?_
        refine RC.region rfl ?_
        refine RL.q (Qt.mv rfl) ?_
        refine RL.q (Qt.mv rfl) ?_
        -- stops: op call
        have hS := (hS.pick [1, 2, 0, 3] (by decide) rfl).tabShut 1 rfl hc2
        refine RL.e (Ef.call hS (phLoose b bl n cap _ root many x hx) rfl rfl Try.call144 [0, 1] [2, 3] (by decide) rfl rfl) ?_
        rintro v61 w ⟨ps, ⟨rfl, rfl⟩, hS⟩
        refine RL.nil ?_
        -- stops: end normal
        have e1 : cutF f x = looseF { f with next := upd f.next (f.prev x) (f.next x), prev := upd f.prev (f.next x) (f.prev x) } x := by simp [cutF, h, h2, h3]
        rw [e1]
        exact RE.endB rfl ⟨rfl, rfl⟩ (hS.pick [0, 1, 3] (by decide) rfl)
      · skip
        have h3 : f.next x = -1 := Classical.not_not.1 (of_decide_eq_false h3)
        refine RC.skip ?_
        refine RE.sqN ?_
        refine RC.region rfl ?_
        refine RL.q (Qt.mv rfl) ?_
        refine RL.q (Qt.mv rfl) ?_
        -- stops: op call
        have hS := (hS.pick [1, 2, 0, 3] (by decide) rfl).tabShut 1 rfl hc1
        refine RL.e (Ef.call hS (phLoose b bl n cap _ root many x hx) rfl rfl Try.call144 [0, 1] [2, 3] (by decide) rfl rfl) ?_
        rintro v61 w ⟨ps, ⟨rfl, rfl⟩, hS⟩
        refine RL.nil ?_
        -- stops: end normal
        have e1 : cutF f x = looseF { f with next := upd f.next (f.prev x) (f.next x) } x := by simp [cutF, h, h2, h3]
        rw [e1]
        exact RE.endB rfl ⟨rfl, rfl⟩ (hS.pick [0, 1, 3] (by decide) rfl)
  · skip
    have h : f.prev x = -1 := Classical.not_not.1 (of_decide_eq_false h)
    refine RC.skip ?_
    refine RE.sqN ?_
    refine RC.seq ?_
    refine RC.seq ?_
    refine RC.region rfl ?_
    refine RL.q (Qt.fld rfl) ?_
    refine RL.q (Qt.ld rfl (by first | exact hS.at 0 rfl | exact hS.at 1 rfl | exact hS.at 2 rfl | exact hS.at 3 rfl) (by first  | rfl)) ?_
    refine RL.q (Qt.neq rfl rfl) ?_
    refine RL.nil ?_
    refine RE.sqN ?_
    -- stops: cond
    refine RC.cond rfl (fun h3 => ?_) (fun h3 => ?_)
    · skip
      have h3 : f.next x ≠ -1 := of_decide_eq_true h3
      have hn : 0 ≤ f.next x ∧ f.next x < n := by omega
      have hc2 := ps4 hc hn.1 hn.2 (f.prev x)
      refine RC.drawn 10 [0, 1, 2, 3, 4, 5, 6, 7, 8, 9] (Same _) (by kernel_rfl) (by kernel_rfl) Same.drew (fun hh => ?_)
      replace hS := hS.drew
      refine RH.q hh (Calm.sq Calm.body) rfl (by kernel_rfl) (Qt.mv rfl) ?_
      refine RH.q hh (Calm.sq Calm.body) rfl (by kernel_rfl) (Qt.nil rfl) ?_
      refine RH.q hh (Calm.sq Calm.body) rfl (by kernel_rfl) (Qt.fld rfl) ?_
      refine RH.q hh (Calm.sq Calm.body) rfl (by kernel_rfl) (Qt.ld rfl (by first | exact hS.at 0 rfl | exact hS.at 1 rfl | exact hS.at 2 rfl | exact hS.at 3 rfl) (by first  | rfl)) ?_
      refine RH.q hh (Calm.sq Calm.body) rfl (by kernel_rfl) (Qt.fld rfl) ?_
      refine RH.q hh (Calm.sq Calm.body) rfl (by kernel_rfl) (Qt.ld rfl (by first | exact hS.at 0 rfl | exact hS.at 1 rfl | exact hS.at 2 rfl | exact hS.at 3 rfl) (by first  | rfl)) ?_
      refine RH.q hh (Calm.sq Calm.body) rfl (by kernel_rfl) (Qt.fld rfl) ?_
      refine RH.q hh (Calm.sq Calm.body) rfl (by kernel_rfl) (Qt.ld rfl (by first | exact hS.at 0 rfl | exact hS.at 1 rfl | exact hS.at 2 rfl | exact hS.at 3 rfl) (by first  | rfl)) ?_
      refine RH.q hh (Calm.sq Calm.body) rfl (by kernel_rfl) (Qt.ixS rfl rfl (by first | assumption | omega | (dsimp only; omega)) (by first | assumption | omega | (dsimp only; omega))) ?_
      refine RH.q hh (Calm.sq Calm.body) rfl (by kernel_rfl) (Qt.fld rfl) ?_
      refine RH.done hh (by kernel_rfl) ?_
      first | refine RL.e0 (Ef.st hS 0 rfl rfl rfl (by rfl) (by rfl) (by first | exact Nat.le_of_ble_eq_true rfl | omega | (simp only [wr_size]; omega))) ?_ | refine RL.e0 (Ef.st hS 1 rfl rfl rfl (by rfl) (by rfl) (by first | exact Nat.le_of_ble_eq_true rfl | omega | (simp only [wr_size]; omega))) ?_ | refine RL.e0 (Ef.st hS 2 rfl rfl rfl (by rfl) (by rfl) (by first | exact Nat.le_of_ble_eq_true rfl | omega | (simp only [wr_size]; omega))) ?_ | refine RL.e0 (Ef.st hS 3 rfl rfl rfl (by rfl) (by rfl) (by first | exact Nat.le_of_ble_eq_true rfl | omega | (simp only [wr_size]; omega))) ?_
      intro _ w hS
      simp (disch := omega) only [List.set_cons_succ, cells_int', Nat.zero_add] at hS
      refine RL.nil ?_
      refine RE.sqN ?_
      refine RC.region rfl ?_
      refine RL.q (Qt.mv rfl) ?_
      refine RL.q (Qt.mv rfl) ?_
      -- stops: op call
      have hS := (hS.pick [1, 2, 0, 3] (by decide) rfl).tabShut 1 rfl hc2
      refine RL.e (Ef.call hS (phLoose b bl n cap _ root many x hx) rfl rfl Try.call144 [0, 1] [2, 3] (by decide) rfl rfl) ?_
      rintro v61 w ⟨ps, ⟨rfl, rfl⟩, hS⟩
      refine RL.nil ?_
      -- stops: end normal
      have e1 : cutF f x = looseF { f with prev := upd f.prev (f.next x) (f.prev x) } x := by simp [cutF, h, h3]
      rw [e1]
      exact RE.endB rfl ⟨rfl, rfl⟩ (hS.pick [0, 1, 3] (by decide) rfl)
    · skip
      have h3 : f.next x = -1 := Classical.not_not.1 (of_decide_eq_false h3)
      refine RC.skip ?_
      refine RE.sqN ?_
      refine RC.region rfl ?_
      refine RL.q (Qt.mv rfl) ?_
      refine RL.q (Qt.mv rfl) ?_
      -- stops: op call
      have hS := (hS.pick [1, 2, 0, 3] (by decide) rfl).tabShut 1 rfl hc
      refine RL.e (Ef.call hS (phLoose b bl n cap _ root many x hx) rfl rfl Try.call144 [0, 1] [2, 3] (by decide) rfl rfl) ?_
      rintro v61 w ⟨ps, ⟨rfl, rfl⟩, hS⟩
      refine RL.nil ?_
      -- stops: end normal
      have e1 : cutF f x = looseF f x := by simp [cutF, h, h3]
      rw [e1]
      exact RE.endB rfl ⟨rfl, rfl⟩ (hS.pick [0, 1, 3] (by decide) rfl)

/-- What is left, and the children, of one that is taken out. -/
theorem out_parts {n : Nat} {l : List PItem} {f : PH} {root many : Int} {t : BT} {id : Int} (h : HI n l f root many t) (hid : id ∈ pIds l) :
    (id = root ∧ Tr f .nil ∧ t.ids.Perm (BT.nil.ids ++ id :: (t.kids id).ids) ∧ f.child id = (t.kids id).root ∧ Rep f id (t.kids id) ∧ Ord f (t.kids id)) ∨
    (id ≠ root ∧ Tr (cutF f id) (t.cut id) ∧ t.ids.Perm ((t.cut id).ids ++ id :: (t.kids id).ids) ∧ (cutF f id).child id = (t.kids id).root ∧ Rep (cutF f id) id (t.kids id) ∧ Ord (cutF f id) (t.kids id) ∧ (cutF f id).it = f.it ∧ (cutF f id).there = f.there ∧ (t.cut id).root = root) := by
  have hm : id ∈ t.ids := h.ids.mem_iff.2 hid
  have hnd := h.tnd
  have hp := BT.cut_ids hm hnd
  obtain ⟨a1, a2, a3, a4⟩ := Rep.at h.tr.rep hm hnd
  by_cases e : id = root
  · refine .inl ⟨e, Tr.nil, ?_, a1, a2, h.tr.ord.kids⟩
    have hc : t.cut id = .nil := by
      rw [h.root] at e
      have hone := h.tr.one
      cases t with
      | nil => simp [BT.ids] at hm
      | node i c nx =>
        have : i = id := e.symm
        subst this
        cases nx with
        | nil => exact if_pos rfl
        | node _ _ _ => exact hone.elim
    rw [hc] at hp; exact hp
  · have hr : t.root ≠ id := fun e2 => e (by rw [h.root, e2])
    rcases a3 with ⟨b, _⟩ | ⟨_, b⟩
    · exact absurd b hr
    · have hnd2 := hp.nodup_iff.1 hnd
      rw [List.nodup_append, List.nodup_cons] at hnd2
      obtain ⟨n1, ⟨n2, n3⟩, n4⟩ := hnd2
      have hp0 : f.prev id ≠ -1 := by
        have := h.tr.nn _ (BT.cut_sub b); omega
      obtain ⟨c1, c2⟩ := cut_rep (cut_is hp0) rfl rfl h.tr.rep hm hnd h.tr.nn hr
      have hmv := cut_mv hp0
      have hone : (t.cut id).single := by
        have h1 := h.tr.one
        cases t with
        | nil => trivial
        | node i c nx =>
          have hi : ¬ i = id := hr
          rw [BT.cut, if_neg hi]
          cases nx with
          | nil => trivial
          | node _ _ _ => exact h1.elim
      refine .inr ⟨e, ⟨c1, hone, h.tr.ord.cut.it hmv.it, fun i hi => h.tr.nn i (BT.cut_sub hi)⟩, hp, ?_, a2.mv hmv fun i hi e2 => ?_, h.tr.ord.kids.it hmv.it, hmv.it, hmv.there, by rw [c2, h.root]⟩
      · rw [(cut_is hp0).child, if_neg, a1]
        rintro ⟨e2, e3⟩
        exact n4 _ b id (by simp) e2.symm
      · simp only [List.mem_cons, List.not_mem_nil, or_false] at e2
        rcases e2 with rfl | rfl | rfl
        · exact n2 hi
        · exact n4 _ b _ (by simp [hi]) rfl
        · rcases a4 with a4 | a4
          · have := h.tr.nn (f.next id) (hp.mem_iff.2 (by simp [hi])); omega
          · exact n4 _ a4 _ (by simp [hi]) rfl

theorem hT_child {w : World} {L : List HP} {bl n : Nat} {f : PH} (hS : Sat oo w L) (k : Nat) (hk : L[k]? = some (hT bl n f)) {i x : Int} (h : 0 ≤ i ∧ i < n) (hx : f.child i = x) :
    ∃ c T fz, w.heap[bl]? = some (.cells c T fz) ∧ c.toList[0 + i.toNat * 6 + 2]? = some (.int .i64 x) := by
  obtain ⟨c, hc, hS⟩ := hS.tabOpen k hk
  have hlt : k < L.length := (List.getElem?_eq_some_iff.1 hk).1
  exact ⟨c, _, _, hS.get k (List.getElem?_set_self hlt), by rw [← hx]; exact pr2 hc h.1 h.2⟩

theorem out_facts {n : Nat} {l : List PItem} {f g f2 : PH} {root many : Int} {t u k g2 : BT} {id x : Int} (h : HI n l f root many t) (hid : id ∈ pIds l) (hu : Tr g u) (hperm : t.ids.Perm (u.ids ++ id :: k.ids)) (hch : g.child id = x)
    (hfg : ∀ i, g.it i = f.it i) (hth : g.there = f.there) (hn : 1 ≤ n) (hg : Gth n g f2 k g2) :
    (-1 ≤ g2.root ∧ g2.root < n) ∧ f2.child id = x ∧ (meldF f2 u.root g2.root).1.child id = x ∧ HI n (pout l id) (zeroF (meldF f2 u.root g2.root).1 id) (meldF f2 u.root g2.root).2 (many - 1) (meldT f2 u g2) := by
  have hmv : Mv g f2 g2.ids := hg.mv.mono fun i hi => hg.perm.mem_iff.2 hi
  have hperm2 : t.ids.Perm (u.ids ++ id :: g2.ids) := hperm.trans ((List.perm_append_left_iff _).2 ((hg.perm.symm).cons id))
  have hnd : (u.ids ++ id :: g2.ids).Nodup := hperm2.nodup_iff.1 h.tnd
  have hnd1 : (id :: (u.ids ++ g2.ids)).Nodup := (List.perm_middle.nodup_iff).1 hnd
  rw [List.nodup_cons] at hnd1
  obtain ⟨hnot, hnd2⟩ := hnd1
  have hu' : Tr f2 u := hu.mv hmv fun i hi e => by
    rw [List.nodup_append] at hnd2
    exact hnd2.2.2 i hi i e rfl
  obtain ⟨_, _, _, m4⟩ := meld_tr hu' hg.tr hnd2
  have h1 : f2.child id = x := (hmv.child id fun e => hnot (List.mem_append.2 (.inr e))).trans hch
  refine ⟨?_, h1, (m4.child id hnot).trans h1, h.out hid hu hg.tr hfg hth hmv hperm2 hg.bd hn⟩
  rcases g2.root_mem with ⟨e, _⟩ | e
  · omega
  · obtain ⟨y, hy, e⟩ := List.mem_map.1 (h.ids.mem_iff.1 (hperm2.mem_iff.2 (List.mem_append.2 (.inr (List.mem_cons.2 (.inr e))))))
    have := h.range y hy
    omega

set_option maxHeartbeats 4000000 in
theorem phOut (p : Value) (n : Nat) (l : List PItem) (id : Int) (hid : id ∈ pIds l) : Ct Try.prog 83 #[p, .int .i64 id] [hO p n l] (fun v ps => v = .tuple #[] ∧ ps = [hO p n (pout l id)]) := by
  refine Ct.enter Try.func83 rfl (Nat.le_of_ble_eq_true rfl) ?_
  intro oo w R hS
  change RC _ _ _ _ _ _ [(0, _), (1, _)] _
  obtain ⟨f, root, many, tr, b, bl, cap, rfl, hi, hn1, hn2, hS⟩ := hO_open hS
  obtain ⟨y, hy, hyid⟩ := List.mem_map.1 hid
  have hrg := hi.range y hy
  rw [hyid] at hrg
  have hlen := hi.lenLe
  have hmany := hi.many
  have hnd := hi.tnd
  have hknd : ∀ {u : BT}, tr.ids.Perm (u.ids ++ id :: (tr.kids id).ids) → (tr.kids id).ids.Nodup ∧ ∀ i ∈ (tr.kids id).ids, 0 ≤ i ∧ i < n := fun {u} hp => by
    have h1 := hp.nodup_iff.1 hnd
    rw [List.nodup_append, List.nodup_cons] at h1
    refine ⟨h1.2.1.2, fun i hi' => ?_⟩
    obtain ⟨z, hz, e⟩ := List.mem_map.1 (hi.ids.mem_iff.1 (hp.mem_iff.2 (List.mem_append.2 (.inr (List.mem_cons.2 (.inr hi'))))))
    have := hi.range z hz
    omega
  refine RC.seq ?_
  refine RC.seq ?_
  refine RC.region rfl ?_
  refine RL.q (Qt.mv rfl) ?_
  refine RL.q (Qt.mv rfl) ?_
  refine RL.q (Qt.nil rfl) ?_
  refine RL.q (Qt.fld rfl) ?_
  refine RL.q (Qt.ld rfl (by first | exact hS.at 0 rfl | exact hS.at 1 rfl | exact hS.at 2 rfl) (by first  | rfl)) ?_
  refine RL.q (Qt.eql rfl rfl) ?_
  refine RL.nil ?_
  refine RE.sqN ?_
  -- stops: cond
  refine RC.cond rfl (fun h => ?_) (fun h => ?_)
  · skip
    have h : id = root := of_decide_eq_true h
    rcases out_parts hi hid with ⟨_, g1, g2', g3, g4, g5⟩ | ⟨g, _⟩
    case inr => exact absurd h g
    have hub : -1 ≤ BT.nil.root ∧ BT.nil.root < (n : Int) := by simp only [BT.root]; omega
    obtain ⟨k1, k2⟩ := hknd g2'
    have hfact := fun {f2 : PH} {g2 : BT} => out_facts (f2 := f2) (g2 := g2) hi hid g1 g2' g3 (fun _ => rfl) rfl hn1
    refine RC.region rfl ?_
    refine RL.q (Qt.mv rfl) ?_
    refine RL.q (Qt.nil rfl) ?_
    refine RL.q (Qt.fld rfl) ?_
    first | refine RL.e0 (Ef.st hS 0 rfl rfl rfl (by rfl) (by rfl) (by first | exact Nat.le_of_ble_eq_true rfl | omega | (simp only [Array.size_map]; omega))) ?_ | refine RL.e0 (Ef.st hS 1 rfl rfl rfl (by rfl) (by rfl) (by first | exact Nat.le_of_ble_eq_true rfl | omega | (simp only [Array.size_map]; omega))) ?_ | refine RL.e0 (Ef.st hS 2 rfl rfl rfl (by rfl) (by rfl) (by first | exact Nat.le_of_ble_eq_true rfl | omega | (simp only [Array.size_map]; omega))) ?_
    intro _ w hS
    simp (disch := omega) only [List.set_cons_zero, List.set_cons_succ, cells_int', Nat.zero_add, wr, List.setIfInBounds_toArray] at hS
    refine RL.nil ?_
    refine RE.sqN ?_
    refine RC.seq ?_
    -- stops: drawn
    refine RC.drawn 17 [0, 1, 2, 3, 4, 5, 6, 7, 8, 9, 10, 11, 12, 13, 14, 15, 16] (fun w' => w'.heap[b]? = some (hC bl n cap (BT.nil).root many) ∧ ∃ c T fz, w'.heap[bl]? = some (.cells c T fz) ∧ c.toList[0 + id.toNat * 6 + 2]? = some (.int .i64 (tr.kids id).root)) (by kernel_rfl) (by kernel_rfl) (by first | exact ⟨hS.drew.get 0 rfl, hT_child hS.drew 1 rfl hrg g3⟩) (fun hh => ?_)
    replace hS := hS.drew
    refine RH.q hh (Calm.sq Calm.body) rfl (by kernel_rfl) (Qt.mv rfl) ?_
    refine RH.q hh (Calm.sq Calm.body) rfl (by kernel_rfl) (Qt.mv rfl) ?_
    refine RH.q hh (Calm.sq Calm.body) rfl (by kernel_rfl) (Qt.mv rfl) ?_
    refine RH.q hh (Calm.sq Calm.body) rfl (by kernel_rfl) (Qt.nil rfl) ?_
    refine RH.q hh (Calm.sq Calm.body) rfl (by kernel_rfl) (Qt.fld rfl) ?_
    refine RH.q hh (Calm.sq Calm.body) rfl (by kernel_rfl) ((by first | exact Qt.ld rfl (fun _ h => h.1) (by first  | rfl) | exact Qt.ldE rfl (fun _ h => h.2))) ?_
    refine RH.q hh (Calm.sq Calm.body) rfl (by kernel_rfl) (Qt.mv rfl) ?_
    refine RH.q hh (Calm.sq Calm.body) rfl (by kernel_rfl) (Qt.mv rfl) ?_
    refine RH.q hh (Calm.sq Calm.body) rfl (by kernel_rfl) (Qt.nil rfl) ?_
    refine RH.q hh (Calm.sq Calm.body) rfl (by kernel_rfl) (Qt.fld rfl) ?_
    refine RH.q hh (Calm.sq Calm.body) rfl (by kernel_rfl) ((by first | exact Qt.ld rfl (fun _ h => h.1) (by first  | rfl) | exact Qt.ldE rfl (fun _ h => h.2))) ?_
    refine RH.q hh (Calm.sq Calm.body) rfl (by kernel_rfl) (Qt.mv rfl) ?_
    refine RH.q hh (Calm.sq Calm.body) rfl (by kernel_rfl) (Qt.ixS rfl rfl (by first | assumption | omega | (dsimp only; omega)) (by first | assumption | omega | (dsimp only; omega))) ?_
    refine RH.q hh (Calm.sq Calm.body) rfl (by kernel_rfl) (Qt.fld rfl) ?_
    refine RH.q hh (Calm.sq Calm.body) rfl (by kernel_rfl) ((by first | exact Qt.ld rfl (fun _ h => h.1) (by first  | rfl) | exact Qt.ldE rfl (fun _ h => h.2))) ?_
    refine RH.e hh rfl (by kernel_rfl) (Ef.call hS (phGather b bl n cap (f) (-1) many (tr.kids id) hi.bd hn2 ⟨id, g4⟩ g5 k1 k2) rfl rfl Try.call126 [0, 1] [2] (by decide) rfl rfl) ?_
    rintro v31 w ⟨ps, ⟨f2, g2, rfl, hg2, rfl⟩, hS⟩
    refine ⟨(by first | exact ⟨hS.get 0 rfl, hT_child hS 1 rfl hrg (hfact hg2).2.1⟩ | exact ⟨hS.get 0 rfl, hT_child hS 1 rfl hrg (hfact hg2).2.2.1⟩), ?_⟩
    refine RH.e hh rfl (by kernel_rfl) (Ef.call hS (phMeld b bl n cap f2 (-1) many (BT.nil).root g2.root hg2.bd hub (hfact hg2).1) rfl rfl Try.call84 [0, 1] [2] (by decide) rfl rfl) ?_
    rintro v32 w ⟨ps, ⟨rfl, rfl⟩, hS⟩
    refine ⟨(by first | exact ⟨hS.get 0 rfl, hT_child hS 1 rfl hrg (hfact hg2).2.1⟩ | exact ⟨hS.get 0 rfl, hT_child hS 1 rfl hrg (hfact hg2).2.2.1⟩), ?_⟩
    refine RH.done hh (by kernel_rfl) ?_
    obtain ⟨c, hc, hS⟩ := hS.tabOpen 1 rfl
    try simp only [List.set_cons_zero, List.set_cons_succ] at hS
    have hsz := hc.size
    have hcz := psZ hc hrg.1 hrg.2
    refine RL.q (Qt.nil rfl) ?_
    refine RL.q (Qt.fld rfl) ?_
    first | refine RL.e0 (Ef.st hS 0 rfl rfl rfl (by rfl) (by rfl) (by first | exact Nat.le_of_ble_eq_true rfl | omega | (simp only [Array.size_map]; omega))) ?_ | refine RL.e0 (Ef.st hS 1 rfl rfl rfl (by rfl) (by rfl) (by first | exact Nat.le_of_ble_eq_true rfl | omega | (simp only [Array.size_map]; omega))) ?_ | refine RL.e0 (Ef.st hS 2 rfl rfl rfl (by rfl) (by rfl) (by first | exact Nat.le_of_ble_eq_true rfl | omega | (simp only [Array.size_map]; omega))) ?_
    intro _ w hS
    simp (disch := omega) only [cells_int', Nat.zero_add] at hS
    refine RL.nil ?_
    refine RE.sqN ?_
    refine RC.seq ?_
    refine RC.region rfl ?_
    refine RL.q (Qt.mv rfl) ?_
    refine RL.q (Qt.nil rfl) ?_
    refine RL.q (Qt.fld rfl) ?_
    refine RL.q (Qt.ld rfl (by first | exact hS.at 0 rfl | exact hS.at 1 rfl | exact hS.at 2 rfl) (by first  | rfl)) ?_
    refine RL.q (Qt.mv rfl) ?_
    refine RL.q (Qt.bldV [.const (Go.Value.agg #[(Go.Value.int Go.IntKind.u64 0), (Go.Value.int Go.IntKind.u64 0)]), .const (Go.Value.int Go.IntKind.i64 0), .const (Go.Value.int Go.IntKind.i64 0), .const (Go.Value.int Go.IntKind.i64 0), .const (Go.Value.bool false)] rfl rfl (by kernel_rfl)) ?_
    refine RL.q (Qt.ixS rfl rfl (by first | assumption | omega | (dsimp only; omega)) (by first | assumption | omega | (dsimp only; omega))) ?_
    first | refine RL.e0 (Ef.st hS 0 rfl rfl rfl (by rfl) (by rfl) (by first | exact Nat.le_of_ble_eq_true rfl | omega | (simp only [Array.size_map]; omega))) ?_ | refine RL.e0 (Ef.st hS 1 rfl rfl rfl (by rfl) (by rfl) (by first | exact Nat.le_of_ble_eq_true rfl | omega | (simp only [Array.size_map]; omega))) ?_ | refine RL.e0 (Ef.st hS 2 rfl rfl rfl (by rfl) (by rfl) (by first | exact Nat.le_of_ble_eq_true rfl | omega | (simp only [Array.size_map]; omega))) ?_
    intro _ w hS
    simp (disch := omega) only [cells_agg', Nat.zero_add] at hS
    refine RL.nil ?_
    refine RE.sqN ?_
    refine RC.region rfl ?_
    refine RL.q (Qt.mv rfl) ?_
    refine RL.q (Qt.nil rfl) ?_
    refine RL.q (Qt.fld rfl) ?_
    refine RL.q (Qt.ld rfl (by first | exact hS.at 0 rfl | exact hS.at 1 rfl | exact hS.at 2 rfl) (by first  | rfl)) ?_
    refine RL.q ((by first | exact Qt.subI rfl rfl (by dsimp only [inK]; omega) | exact Qt.sub rfl rfl)) ?_
    refine RL.q (Qt.nil rfl) ?_
    refine RL.q (Qt.fld rfl) ?_
    first | refine RL.e0 (Ef.st hS 0 rfl rfl rfl (by rfl) (by rfl) (by first | exact Nat.le_of_ble_eq_true rfl | omega | (simp only [Array.size_map]; omega))) ?_ | refine RL.e0 (Ef.st hS 1 rfl rfl rfl (by rfl) (by rfl) (by first | exact Nat.le_of_ble_eq_true rfl | omega | (simp only [Array.size_map]; omega))) ?_ | refine RL.e0 (Ef.st hS 2 rfl rfl rfl (by rfl) (by rfl) (by first | exact Nat.le_of_ble_eq_true rfl | omega | (simp only [Array.size_map]; omega))) ?_
    intro _ w hS
    simp (disch := omega) only [cells_int', Nat.zero_add] at hS
    refine RL.nil ?_
    -- stops: end normal
    exact RE.endB rfl ⟨rfl, rfl⟩ (hO_shut (hfact hg2).2.2.2 hn1 hn2 (hS.tabShut 1 rfl hcz))
  · skip
    have h : id ≠ root := of_decide_eq_false h
    rcases out_parts hi hid with ⟨g, _⟩ | ⟨_, g1, g2', g3, g4, g5, g6, g7, g8⟩
    case inl => exact absurd g h
    have hub : -1 ≤ (tr.cut id).root ∧ (tr.cut id).root < (n : Int) := by
      rcases (tr.cut id).root_mem with ⟨e, _⟩ | e
      · omega
      · obtain ⟨z, hz, e⟩ := List.mem_map.1 (hi.ids.mem_iff.1 (BT.cut_sub e))
        have := hi.range z hz
        omega
    rw [← g8] at hS
    refine RC.region rfl ?_
    refine RL.q (Qt.mv rfl) ?_
    refine RL.q (Qt.mv rfl) ?_
    -- stops: op call
    refine RL.e (Ef.call hS (phCut b bl n cap f _ many id hi.bd hrg) rfl rfl Try.call125 [0, 1] [2] (by decide) rfl rfl) ?_
    rintro v15 w ⟨ps, ⟨rfl, rfl⟩, hS⟩
    obtain ⟨k1, k2⟩ := hknd g2'
    have hfact := fun {f2 : PH} {g2 : BT} => out_facts (f2 := f2) (g2 := g2) hi hid g1 g2' g3 (fun i => congrFun g6 i) g7 hn1
    refine RL.nil ?_
    refine RE.sqN ?_
    refine RC.seq ?_
    -- stops: drawn
    refine RC.drawn 17 [0, 1, 2, 3, 4, 5, 6, 7, 8, 9, 10, 11, 12, 13, 14, 15, 16] (fun w' => w'.heap[b]? = some (hC bl n cap (tr.cut id).root many) ∧ ∃ c T fz, w'.heap[bl]? = some (.cells c T fz) ∧ c.toList[0 + id.toNat * 6 + 2]? = some (.int .i64 (tr.kids id).root)) (by kernel_rfl) (by kernel_rfl) (by first | exact ⟨hS.drew.get 0 rfl, hT_child hS.drew 1 rfl hrg g3⟩) (fun hh => ?_)
    replace hS := hS.drew
    refine RH.q hh (Calm.sq Calm.body) rfl (by kernel_rfl) (Qt.mv rfl) ?_
    refine RH.q hh (Calm.sq Calm.body) rfl (by kernel_rfl) (Qt.mv rfl) ?_
    refine RH.q hh (Calm.sq Calm.body) rfl (by kernel_rfl) (Qt.mv rfl) ?_
    refine RH.q hh (Calm.sq Calm.body) rfl (by kernel_rfl) (Qt.nil rfl) ?_
    refine RH.q hh (Calm.sq Calm.body) rfl (by kernel_rfl) (Qt.fld rfl) ?_
    refine RH.q hh (Calm.sq Calm.body) rfl (by kernel_rfl) ((by first | exact Qt.ld rfl (fun _ h => h.1) (by first  | rfl) | exact Qt.ldE rfl (fun _ h => h.2))) ?_
    refine RH.q hh (Calm.sq Calm.body) rfl (by kernel_rfl) (Qt.mv rfl) ?_
    refine RH.q hh (Calm.sq Calm.body) rfl (by kernel_rfl) (Qt.mv rfl) ?_
    refine RH.q hh (Calm.sq Calm.body) rfl (by kernel_rfl) (Qt.nil rfl) ?_
    refine RH.q hh (Calm.sq Calm.body) rfl (by kernel_rfl) (Qt.fld rfl) ?_
    refine RH.q hh (Calm.sq Calm.body) rfl (by kernel_rfl) ((by first | exact Qt.ld rfl (fun _ h => h.1) (by first  | rfl) | exact Qt.ldE rfl (fun _ h => h.2))) ?_
    refine RH.q hh (Calm.sq Calm.body) rfl (by kernel_rfl) (Qt.mv rfl) ?_
    refine RH.q hh (Calm.sq Calm.body) rfl (by kernel_rfl) (Qt.ixS rfl rfl (by first | assumption | omega | (dsimp only; omega)) (by first | assumption | omega | (dsimp only; omega))) ?_
    refine RH.q hh (Calm.sq Calm.body) rfl (by kernel_rfl) (Qt.fld rfl) ?_
    refine RH.q hh (Calm.sq Calm.body) rfl (by kernel_rfl) ((by first | exact Qt.ld rfl (fun _ h => h.1) (by first  | rfl) | exact Qt.ldE rfl (fun _ h => h.2))) ?_
    refine RH.e hh rfl (by kernel_rfl) (Ef.call hS (phGather b bl n cap (cutF f id) (tr.cut id).root many (tr.kids id) (hi.bd.cut hrg) hn2 ⟨id, g4⟩ g5 k1 k2) rfl rfl Try.call126 [0, 1] [2] (by decide) rfl rfl) ?_
    rintro v31 w ⟨ps, ⟨f2, g2, rfl, hg2, rfl⟩, hS⟩
    refine ⟨(by first | exact ⟨hS.get 0 rfl, hT_child hS 1 rfl hrg (hfact hg2).2.1⟩ | exact ⟨hS.get 0 rfl, hT_child hS 1 rfl hrg (hfact hg2).2.2.1⟩), ?_⟩
    refine RH.e hh rfl (by kernel_rfl) (Ef.call hS (phMeld b bl n cap f2 (tr.cut id).root many (tr.cut id).root g2.root hg2.bd hub (hfact hg2).1) rfl rfl Try.call84 [0, 1] [2] (by decide) rfl rfl) ?_
    rintro v32 w ⟨ps, ⟨rfl, rfl⟩, hS⟩
    refine ⟨(by first | exact ⟨hS.get 0 rfl, hT_child hS 1 rfl hrg (hfact hg2).2.1⟩ | exact ⟨hS.get 0 rfl, hT_child hS 1 rfl hrg (hfact hg2).2.2.1⟩), ?_⟩
    refine RH.done hh (by kernel_rfl) ?_
    obtain ⟨c, hc, hS⟩ := hS.tabOpen 1 rfl
    try simp only [List.set_cons_zero, List.set_cons_succ] at hS
    have hsz := hc.size
    have hcz := psZ hc hrg.1 hrg.2
    refine RL.q (Qt.nil rfl) ?_
    refine RL.q (Qt.fld rfl) ?_
    first | refine RL.e0 (Ef.st hS 0 rfl rfl rfl (by rfl) (by rfl) (by first | exact Nat.le_of_ble_eq_true rfl | omega | (simp only [Array.size_map]; omega))) ?_ | refine RL.e0 (Ef.st hS 1 rfl rfl rfl (by rfl) (by rfl) (by first | exact Nat.le_of_ble_eq_true rfl | omega | (simp only [Array.size_map]; omega))) ?_ | refine RL.e0 (Ef.st hS 2 rfl rfl rfl (by rfl) (by rfl) (by first | exact Nat.le_of_ble_eq_true rfl | omega | (simp only [Array.size_map]; omega))) ?_
    intro _ w hS
    simp (disch := omega) only [cells_int', Nat.zero_add] at hS
    refine RL.nil ?_
    refine RE.sqN ?_
    refine RC.seq ?_
    refine RC.region rfl ?_
    refine RL.q (Qt.mv rfl) ?_
    refine RL.q (Qt.nil rfl) ?_
    refine RL.q (Qt.fld rfl) ?_
    refine RL.q (Qt.ld rfl (by first | exact hS.at 0 rfl | exact hS.at 1 rfl | exact hS.at 2 rfl) (by first  | rfl)) ?_
    refine RL.q (Qt.mv rfl) ?_
    refine RL.q (Qt.bldV [.const (Go.Value.agg #[(Go.Value.int Go.IntKind.u64 0), (Go.Value.int Go.IntKind.u64 0)]), .const (Go.Value.int Go.IntKind.i64 0), .const (Go.Value.int Go.IntKind.i64 0), .const (Go.Value.int Go.IntKind.i64 0), .const (Go.Value.bool false)] rfl rfl (by kernel_rfl)) ?_
    refine RL.q (Qt.ixS rfl rfl (by first | assumption | omega | (dsimp only; omega)) (by first | assumption | omega | (dsimp only; omega))) ?_
    first | refine RL.e0 (Ef.st hS 0 rfl rfl rfl (by rfl) (by rfl) (by first | exact Nat.le_of_ble_eq_true rfl | omega | (simp only [Array.size_map]; omega))) ?_ | refine RL.e0 (Ef.st hS 1 rfl rfl rfl (by rfl) (by rfl) (by first | exact Nat.le_of_ble_eq_true rfl | omega | (simp only [Array.size_map]; omega))) ?_ | refine RL.e0 (Ef.st hS 2 rfl rfl rfl (by rfl) (by rfl) (by first | exact Nat.le_of_ble_eq_true rfl | omega | (simp only [Array.size_map]; omega))) ?_
    intro _ w hS
    simp (disch := omega) only [cells_agg', Nat.zero_add] at hS
    refine RL.nil ?_
    refine RE.sqN ?_
    refine RC.region rfl ?_
    refine RL.q (Qt.mv rfl) ?_
    refine RL.q (Qt.nil rfl) ?_
    refine RL.q (Qt.fld rfl) ?_
    refine RL.q (Qt.ld rfl (by first | exact hS.at 0 rfl | exact hS.at 1 rfl | exact hS.at 2 rfl) (by first  | rfl)) ?_
    refine RL.q ((by first | exact Qt.subI rfl rfl (by dsimp only [inK]; omega) | exact Qt.sub rfl rfl)) ?_
    refine RL.q (Qt.nil rfl) ?_
    refine RL.q (Qt.fld rfl) ?_
    first | refine RL.e0 (Ef.st hS 0 rfl rfl rfl (by rfl) (by rfl) (by first | exact Nat.le_of_ble_eq_true rfl | omega | (simp only [Array.size_map]; omega))) ?_ | refine RL.e0 (Ef.st hS 1 rfl rfl rfl (by rfl) (by rfl) (by first | exact Nat.le_of_ble_eq_true rfl | omega | (simp only [Array.size_map]; omega))) ?_ | refine RL.e0 (Ef.st hS 2 rfl rfl rfl (by rfl) (by rfl) (by first | exact Nat.le_of_ble_eq_true rfl | omega | (simp only [Array.size_map]; omega))) ?_
    intro _ w hS
    simp (disch := omega) only [cells_int', Nat.zero_add] at hS
    refine RL.nil ?_
    -- stops: end normal
    exact RE.endB rfl ⟨rfl, rfl⟩ (hO_shut (hfact hg2).2.2.2 hn1 hn2 (hS.tabShut 1 rfl hcz))
end Go.Proofs

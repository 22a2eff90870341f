/- The heap of deadlines: New, Insert, Change, Delete, Min, Take, Get, List, Len, Fork. -/
import Derived.Test.YtlicnplclfclcaaPh2
namespace Go.Proofs
open Go Go.Gx
variable {oo : World}

set_option maxHeartbeats 2000000 in
theorem phInsert (p : Value) (n : Nat) (l : List PItem) (x : PItem) : Ct Try.prog 34 #[p, .int .i64 x.id, .int .u64 x.dl, .int .u64 x.sq] [hO p n l] (fun v ps => v = .int .i64 (pErr l n x.id false) ∧ ps = [hO p n (pIns l n x)]) := by
  refine Ct.enter Try.func34 rfl (Nat.le_of_ble_eq_true rfl) ?_
  intro oo w R hS
  change RC _ _ _ _ _ _ [(0, _), (1, _), (2, _), (3, _)] _
  refine RC.seq ?_
  refine RC.region rfl ?_
  refine RL.q (Qt.as rfl) ?_
  refine RL.nil ?_
  refine RE.sqN ?_
  refine RC.seq ?_
  refine RC.seq ?_
  refine RC.region rfl ?_
  refine RL.q (Qt.mv rfl) ?_
  refine RL.q (Qt.mv rfl) ?_
  -- stops: op call
  refine RL.e (Ef.call hS (phMay p n l x.id false) rfl rfl Try.call82 [0] [1] (by decide) rfl rfl) ?_
  rintro v12 w ⟨ps, ⟨rfl, rfl⟩, hS⟩
  refine RL.q (Qt.as rfl) ?_
  refine RL.nil ?_
  refine RE.sqN ?_
  refine RC.seq ?_
  refine RC.region rfl ?_
  refine RL.q (Qt.mv rfl) ?_
  refine RL.q (Qt.neq rfl rfl) ?_
  refine RL.nil ?_
  refine RE.sqN ?_
  -- stops: cond
  refine RC.cond rfl (fun h => ?_) (fun h => ?_)
  · refine RC.seq ?_
    refine RC.region rfl ?_
    refine RL.q (Qt.mv rfl) ?_
    refine RL.q (Qt.as rfl) ?_
    refine RL.nil ?_
    refine RE.sqN ?_
    refine RC.ret ?_
    refine RE.sqR ?_
    -- stops: end ret
    have h : ¬ pErr l n x.id false = 0 := by simpa using h
    exact RE.retB rfl ⟨rfl, by rw [show pIns l n x = l from if_neg h]⟩ hS
  · skip
    have h : pErr l n x.id false = 0 := by simpa using h
    obtain ⟨h0, hx⟩ := pErr_is0 h
    rw [h, show pIns l n x = pput x l from if_pos h]
    obtain ⟨f, root, many, tr, b, bl, cap, rfl, hi, hn1, hn2, hS⟩ := hO_open hS
    have hlen := hi.lenLe
    have hmany := hi.many
    have hi' := hi.insert h0 hx
    have hbI : Bd n (insF f x) := fun i g0 g1 => by
      obtain ⟨a, b, c⟩ := hi.bd i g0 g1
      exact ⟨upd_in (by omega) a, upd_in (by omega) b, upd_in (by omega) c⟩
    have hrt : -1 ≤ root ∧ root < n := by
      rw [hi.root]
      rcases tr.root_mem with ⟨e, _⟩ | e
      · omega
      · obtain ⟨y, hy, e⟩ := List.mem_map.1 (hi.ids.mem_iff.1 e)
        have := hi.range y hy
        omega
    obtain ⟨c, hc, hS⟩ := hS.tabOpen 1 rfl
    try simp only [List.set_cons_zero, List.set_cons_succ] at hS
    have hsz := hc.size
    have hcz := psI hc h0.1 h0.2
    refine RC.skip ?_
    refine RE.sqN ?_
    refine RC.seq ?_
    refine RC.region rfl ?_
    refine RL.q (Qt.mv rfl) ?_
    refine RL.q (Qt.nil rfl) ?_
    refine RL.q (Qt.fld rfl) ?_
    refine RL.q (Qt.ld rfl (by first | exact hS.at 0 rfl | exact hS.at 1 rfl | exact hS.at 2 rfl) (by first  | rfl)) ?_
    refine RL.q (Qt.mv rfl) ?_
    refine RL.q (Qt.mv rfl) ?_
    refine RL.q (Qt.mv rfl) ?_
    refine RL.q (Qt.bldV [.tmp 21, .tmp 22] rfl rfl (by kernel_rfl)) ?_
    refine RL.q (Qt.bldV [.tmp 23, .const (Go.Value.int Go.IntKind.i64 (-1)), .const (Go.Value.int Go.IntKind.i64 (-1)), .const (Go.Value.int Go.IntKind.i64 (-1)), .const (Go.Value.bool true)] rfl rfl (by kernel_rfl)) ?_
    refine RL.q (Qt.ixS rfl rfl (by first | assumption | omega | (dsimp only; omega)) (by first | assumption | omega | (dsimp only; omega))) ?_
    first | refine RL.e0 (Ef.st hS 0 rfl rfl rfl (by rfl) (by rfl) (by first | exact Nat.le_of_ble_eq_true rfl | omega | (simp only [Array.size_map]; omega))) ?_ | refine RL.e0 (Ef.st hS 1 rfl rfl rfl (by rfl) (by rfl) (by first | exact Nat.le_of_ble_eq_true rfl | omega | (simp only [Array.size_map]; omega))) ?_ | refine RL.e0 (Ef.st hS 2 rfl rfl rfl (by rfl) (by rfl) (by first | exact Nat.le_of_ble_eq_true rfl | omega | (simp only [Array.size_map]; omega))) ?_
    intro _ w hS
    simp (disch := omega) only [List.set_cons_zero, List.set_cons_succ, cells_agg', Nat.zero_add, List.set_cons_zero] at hS
    refine RL.nil ?_
    refine RE.sqN ?_
    refine RC.seq ?_
    refine RC.region rfl ?_
    refine RL.q (Qt.mv rfl) ?_
    refine RL.q (Qt.mv rfl) ?_
    refine RL.q (Qt.mv rfl) ?_
    refine RL.q (Qt.nil rfl) ?_
    refine RL.q (Qt.fld rfl) ?_
    refine RL.q (Qt.ld rfl (by first | exact hS.at 0 rfl | exact hS.at 1 rfl | exact hS.at 2 rfl) (by first  | rfl)) ?_
    refine RL.q (Qt.mv rfl) ?_
    -- stops: op call
    have hS := hS.tabShut 1 rfl hcz
    refine RL.e (Ef.call hS (phMeld b bl n cap (insF f x) root many root x.id hbI hrt (by omega)) rfl rfl Try.call84 [0, 1] [2] (by decide) rfl rfl) ?_
    rintro v33 w ⟨ps, ⟨rfl, rfl⟩, hS⟩
    refine RL.q (Qt.nil rfl) ?_
    refine RL.q (Qt.fld rfl) ?_
    first | refine RL.e0 (Ef.st hS 0 rfl rfl rfl (by rfl) (by rfl) (by first | exact Nat.le_of_ble_eq_true rfl | omega | (simp only [Array.size_map]; omega))) ?_ | refine RL.e0 (Ef.st hS 1 rfl rfl rfl (by rfl) (by rfl) (by first | exact Nat.le_of_ble_eq_true rfl | omega | (simp only [Array.size_map]; omega))) ?_ | refine RL.e0 (Ef.st hS 2 rfl rfl rfl (by rfl) (by rfl) (by first | exact Nat.le_of_ble_eq_true rfl | omega | (simp only [Array.size_map]; omega))) ?_
    intro _ w hS
    simp (disch := omega) only [List.set_cons_zero, List.set_cons_succ, cells_int', Nat.zero_add, wr, List.setIfInBounds_toArray] at hS
    refine RL.nil ?_
    refine RE.sqN ?_
    refine RC.seq ?_
    refine RC.region rfl ?_
    refine RL.q (Qt.mv rfl) ?_
    refine RL.q (Qt.nil rfl) ?_
    refine RL.q (Qt.fld rfl) ?_
    refine RL.q (Qt.ld rfl (by first | exact hS.at 0 rfl | exact hS.at 1 rfl | exact hS.at 2 rfl) (by first  | rfl)) ?_
    refine RL.q ((by first | exact Qt.addI rfl rfl (by dsimp only [inK]; omega) | exact Qt.add rfl rfl)) ?_
    refine RL.q (Qt.nil rfl) ?_
    refine RL.q (Qt.fld rfl) ?_
    first | refine RL.e0 (Ef.st hS 0 rfl rfl rfl (by rfl) (by rfl) (by first | exact Nat.le_of_ble_eq_true rfl | omega | (simp only [Array.size_map]; omega))) ?_ | refine RL.e0 (Ef.st hS 1 rfl rfl rfl (by rfl) (by rfl) (by first | exact Nat.le_of_ble_eq_true rfl | omega | (simp only [Array.size_map]; omega))) ?_ | refine RL.e0 (Ef.st hS 2 rfl rfl rfl (by rfl) (by rfl) (by first | exact Nat.le_of_ble_eq_true rfl | omega | (simp only [Array.size_map]; omega))) ?_
    intro _ w hS
    simp (disch := omega) only [List.set_cons_zero, List.set_cons_succ, cells_int', Nat.zero_add, wr, List.setIfInBounds_toArray] at hS
    refine RL.nil ?_
    refine RE.sqN ?_
    refine RC.seq ?_
    refine RC.region rfl ?_
    refine RL.q (Qt.as rfl) ?_
    refine RL.nil ?_
    refine RE.sqN ?_
    refine RC.ret ?_
    -- stops: end ret
    exact RE.retB rfl ⟨rfl, rfl⟩ (hO_shut hi' hn1 hn2 hS)

set_option maxHeartbeats 1000000 in
theorem phChange (p : Value) (n : Nat) (l : List PItem) (x : PItem) : Ct Try.prog 36 #[p, .int .i64 x.id, .int .u64 x.dl, .int .u64 x.sq] [hO p n l] (fun v ps => v = .int .i64 (pErr l n x.id true) ∧ ps = [hO p n (pChg l n x)]) := by
  refine Ct.enter Try.func36 rfl (Nat.le_of_ble_eq_true rfl) ?_
  intro oo w R hS
  change RC _ _ _ _ _ _ [(0, _), (1, _), (2, _), (3, _)] _
  refine RC.seq ?_
  refine RC.region rfl ?_
  refine RL.q (Qt.as rfl) ?_
  refine RL.nil ?_
  refine RE.sqN ?_
  refine RC.seq ?_
  refine RC.seq ?_
  refine RC.region rfl ?_
  refine RL.q (Qt.mv rfl) ?_
  refine RL.q (Qt.mv rfl) ?_
  -- stops: op call
  refine RL.e (Ef.call hS (phMay p n l x.id true) rfl rfl Try.call82 [0] [1] (by decide) rfl rfl) ?_
  rintro v12 w ⟨ps, ⟨rfl, rfl⟩, hS⟩
  refine RL.q (Qt.as rfl) ?_
  refine RL.nil ?_
  refine RE.sqN ?_
  refine RC.seq ?_
  refine RC.region rfl ?_
  refine RL.q (Qt.mv rfl) ?_
  refine RL.q (Qt.neq rfl rfl) ?_
  refine RL.nil ?_
  refine RE.sqN ?_
  -- stops: cond
  refine RC.cond rfl (fun h => ?_) (fun h => ?_)
  · refine RC.seq ?_
    refine RC.region rfl ?_
    refine RL.q (Qt.mv rfl) ?_
    refine RL.q (Qt.as rfl) ?_
    refine RL.nil ?_
    refine RE.sqN ?_
    refine RC.ret ?_
    refine RE.sqR ?_
    -- stops: end ret
    have h : ¬ pErr l n x.id true = 0 := by simpa using h
    exact RE.retB rfl ⟨rfl, by rw [show pChg l n x = l from if_neg h]⟩ hS
  · skip
    have h : pErr l n x.id true = 0 := by simpa using h
    obtain ⟨h0, hx⟩ := pErr_is1 h
    have e1 : pErr (pout l x.id) n x.id false = 0 := pErr_ok0 (by omega) (by rw [mem_pout_ids]; simp)
    have e2 : pIns (pout l x.id) n x = pChg l n x := by rw [pIns, if_pos e1, pChg, if_pos h]
    refine RC.skip ?_
    refine RE.sqN ?_
    refine RC.seq ?_
    refine RC.region rfl ?_
    refine RL.q (Qt.mv rfl) ?_
    refine RL.q (Qt.mv rfl) ?_
    -- stops: op call
    refine RL.e (Ef.call hS (phOut p n l x.id hx) rfl rfl Try.call83 [0] [1] (by decide) rfl rfl) ?_
    rintro v18 w ⟨ps, ⟨rfl, rfl⟩, hS⟩
    refine RL.nil ?_
    refine RE.sqN ?_
    refine RC.seq ?_
    refine RC.region rfl ?_
    refine RL.q (Qt.mv rfl) ?_
    refine RL.q (Qt.mv rfl) ?_
    refine RL.q (Qt.mv rfl) ?_
    refine RL.q (Qt.mv rfl) ?_
    -- stops: op call
    refine RL.e (Ef.call hS (phInsert p n (pout l x.id) x) rfl rfl Try.call34 [0] [1] (by decide) rfl rfl) ?_
    rintro v23 w ⟨ps, ⟨rfl, rfl⟩, hS⟩
    refine RL.q (Qt.as rfl) ?_
    refine RL.nil ?_
    refine RE.sqN ?_
    refine RC.ret ?_
    -- stops: end ret
    exact RE.retB rfl ⟨by rw [h, e1]; rfl, by rw [e2]⟩ hS

set_option maxHeartbeats 1000000 in
theorem phDelete (p : Value) (n : Nat) (l : List PItem) (id : Int) : Ct Try.prog 31 #[p, .int .i64 id] [hO p n l] (fun v ps => v = .int .i64 (pErr l n id true) ∧ ps = [hO p n (pDel l n id)]) := by
  refine Ct.enter Try.func31 rfl (Nat.le_of_ble_eq_true rfl) ?_
  intro oo w R hS
  change RC _ _ _ _ _ _ [(0, _), (1, _)] _
  refine RC.seq ?_
  refine RC.region rfl ?_
  refine RL.q (Qt.as rfl) ?_
  refine RL.nil ?_
  refine RE.sqN ?_
  refine RC.seq ?_
  refine RC.seq ?_
  refine RC.region rfl ?_
  refine RL.q (Qt.mv rfl) ?_
  refine RL.q (Qt.mv rfl) ?_
  -- stops: op call
  refine RL.e (Ef.call hS (phMay p n l id true) rfl rfl Try.call82 [0] [1] (by decide) rfl rfl) ?_
  rintro v8 w ⟨ps, ⟨rfl, rfl⟩, hS⟩
  refine RL.q (Qt.as rfl) ?_
  refine RL.nil ?_
  refine RE.sqN ?_
  refine RC.seq ?_
  refine RC.region rfl ?_
  refine RL.q (Qt.mv rfl) ?_
  refine RL.q (Qt.neq rfl rfl) ?_
  refine RL.nil ?_
  refine RE.sqN ?_
  -- stops: cond
  refine RC.cond rfl (fun h => ?_) (fun h => ?_)
  · refine RC.seq ?_
    refine RC.region rfl ?_
    refine RL.q (Qt.mv rfl) ?_
    refine RL.q (Qt.as rfl) ?_
    refine RL.nil ?_
    refine RE.sqN ?_
    refine RC.ret ?_
    refine RE.sqR ?_
    -- stops: end ret
    have h : ¬ pErr l n id true = 0 := by simpa using h
    exact RE.retB rfl ⟨rfl, by rw [show pDel l n id = l from if_neg h]⟩ hS
  · skip
    have h : pErr l n id true = 0 := by simpa using h
    obtain ⟨h0, hx⟩ := pErr_is1 h
    refine RC.skip ?_
    refine RE.sqN ?_
    refine RC.seq ?_
    refine RC.region rfl ?_
    refine RL.q (Qt.mv rfl) ?_
    refine RL.q (Qt.mv rfl) ?_
    -- stops: op call
    refine RL.e (Ef.call hS (phOut p n l id hx) rfl rfl Try.call83 [0] [1] (by decide) rfl rfl) ?_
    rintro v14 w ⟨ps, ⟨rfl, rfl⟩, hS⟩
    refine RL.nil ?_
    refine RE.sqN ?_
    refine RC.seq ?_
    refine RC.region rfl ?_
    refine RL.q (Qt.as rfl) ?_
    refine RL.nil ?_
    refine RE.sqN ?_
    refine RC.ret ?_
    -- stops: end ret
    exact RE.retB rfl ⟨by rw [h]; rfl, by rw [show pDel l n id = pout l id from if_pos h]⟩ hS

set_option maxHeartbeats 1000000 in
theorem phMin (p : Value) (n : Nat) (l : List PItem) : Ct Try.prog 35 #[p] [hO p n l] (fun v ps => v = .tuple #[.int .i64 (pMinId l), .bool (pMinOk l)] ∧ ps = [hO p n l]) := by
  refine Ct.enter Try.func35 rfl (Nat.le_of_ble_eq_true rfl) ?_
  intro oo w R hS
  change RC _ _ _ _ _ _ [(0, _)] _
  obtain ⟨f, root, many, tr, b, bl, cap, rfl, hi, hn1, hn2, hS⟩ := hO_open hS
  refine RC.seq ?_
  refine RC.region rfl ?_
  refine RL.q (Qt.as rfl) ?_
  refine RL.q (Qt.as rfl) ?_
  refine RL.nil ?_
  refine RE.sqN ?_
  refine RC.seq ?_
  refine RC.seq ?_
  refine RC.region rfl ?_
  refine RL.q (Qt.mv rfl) ?_
  refine RL.q (Qt.eqlN rfl rfl) ?_
  refine RL.q (Qt.mv rfl) ?_
  refine RLG.start 6 false rfl ?_
  refine RLG.q rfl rfl rfl (fun _ => Qt.mv rfl) ?_
  refine RLG.q rfl rfl rfl (fun _ => Qt.nil rfl) ?_
  refine RLG.q rfl rfl rfl (fun _ => Qt.fld rfl) ?_
  refine RLG.q rfl rfl rfl (fun hg => by (try simp only [Option.isNone_some] at hg); exact Qt.ld rfl (by first | exact hS.at 0 rfl | exact hS.at 1 rfl | exact hS.at 2 rfl) (by first  | rfl)) ?_
  refine RLG.q rfl rfl rfl (fun hg => by (try simp only [Option.isNone_some] at hg); exact Qt.eql rfl rfl) ?_
  refine RLG.or rfl rfl ?_
  refine RL.nil ?_
  refine RE.sqN ?_
  -- stops: cond
  have hemp := hi.empty
  refine RC.cond rfl (fun h => ?_) (fun h => ?_)
  · refine RC.seq ?_
    refine RC.region rfl ?_
    refine RL.q (Qt.as rfl) ?_
    refine RL.q (Qt.as rfl) ?_
    refine RL.nil ?_
    refine RE.sqN ?_
    refine RC.ret ?_
    refine RE.sqR ?_
    -- stops: end ret
    have h : root = -1 := by simpa using h
    have e := hemp.1 h
    exact RE.retB rfl ⟨by rw [e]; rfl, rfl⟩ (hO_shut hi hn1 hn2 hS)
  · skip
    have h : ¬ root = -1 := by simpa using h
    cases l with
    | nil => exact absurd (hemp.2 rfl) h
    | cons x l =>
      have hh := hi.head
      subst hh
      refine RC.skip ?_
      refine RE.sqN ?_
      refine RC.seq ?_
      refine RC.region rfl ?_
      refine RL.q (Qt.mv rfl) ?_
      refine RL.q (Qt.nil rfl) ?_
      refine RL.q (Qt.fld rfl) ?_
      refine RL.q (Qt.ld rfl (by first | exact hS.at 0 rfl | exact hS.at 1 rfl | exact hS.at 2 rfl) (by first  | rfl)) ?_
      refine RL.q (Qt.as rfl) ?_
      refine RL.q (Qt.as rfl) ?_
      refine RL.nil ?_
      refine RE.sqN ?_
      refine RC.ret ?_
      -- stops: end ret
      exact RE.retB rfl ⟨rfl, rfl⟩ (hO_shut hi hn1 hn2 hS)

set_option maxHeartbeats 1000000 in
theorem phTake (p : Value) (n : Nat) (l : List PItem) : Ct Try.prog 39 #[p] [hO p n l] (fun v ps => v = .tuple #[.int .i64 (pMinId l), .bool (pMinOk l)] ∧ ps = [hO p n l.tail]) := by
  refine Ct.enter Try.func39 rfl (Nat.le_of_ble_eq_true rfl) ?_
  intro oo w R hS
  change RC _ _ _ _ _ _ [(0, _)] _
  have hok := (hO_pok hS).1
  refine RC.seq ?_
  refine RC.region rfl ?_
  refine RL.q (Qt.as rfl) ?_
  refine RL.q (Qt.as rfl) ?_
  refine RL.nil ?_
  refine RE.sqN ?_
  refine RC.seq ?_
  refine RC.region rfl ?_
  refine RL.q (Qt.mv rfl) ?_
  -- stops: op call
  refine RL.e (Ef.call hS (phMin p n l) rfl rfl Try.call35 [0] [1] (by decide) rfl rfl) ?_
  rintro v6 w ⟨ps, ⟨rfl, rfl⟩, hS⟩
  refine RL.q (Qt.mv rfl) ?_
  refine RL.q (Qt.ext rfl rfl) ?_
  refine RL.q (Qt.ext rfl rfl) ?_
  refine RL.q (Qt.as rfl) ?_
  refine RL.q (Qt.as rfl) ?_
  refine RL.nil ?_
  refine RE.sqN ?_
  refine RC.seq ?_
  refine RC.seq ?_
  refine RC.region rfl ?_
  refine RL.q (Qt.mv rfl) ?_
  refine RL.nil ?_
  refine RE.sqN ?_
  -- stops: cond
  refine RC.cond rfl (fun h => ?_) (fun h => ?_)
  · skip
    cases l with
    | nil => cases h
    | cons x l =>
      refine RC.region rfl ?_
      refine RL.q (Qt.mv rfl) ?_
      refine RL.q (Qt.mv rfl) ?_
      -- stops: op call
      refine RL.e (Ef.call hS (phOut p n (x :: l) x.id (by simp [pIds])) rfl rfl Try.call83 [0] [1] (by decide) rfl rfl) ?_
      rintro v12 w ⟨ps, ⟨rfl, rfl⟩, hS⟩
      refine RL.nil ?_
      refine RE.sqN ?_
      refine RC.seq ?_
      refine RC.region rfl ?_
      refine RL.q (Qt.mv rfl) ?_
      refine RL.q (Qt.mv rfl) ?_
      refine RL.q (Qt.as rfl) ?_
      refine RL.q (Qt.as rfl) ?_
      refine RL.nil ?_
      refine RE.sqN ?_
      refine RC.ret ?_
      -- stops: end ret
      exact RE.retB rfl ⟨rfl, by rw [pout_head hok.nodup]; rfl⟩ hS
  · refine RC.skip ?_
    refine RE.sqN ?_
    refine RC.seq ?_
    refine RC.region rfl ?_
    refine RL.q (Qt.mv rfl) ?_
    refine RL.q (Qt.mv rfl) ?_
    refine RL.q (Qt.as rfl) ?_
    refine RL.q (Qt.as rfl) ?_
    refine RL.nil ?_
    refine RE.sqN ?_
    refine RC.ret ?_
    -- stops: end ret
    cases l with
    | nil => exact RE.retB rfl ⟨rfl, rfl⟩ hS
    | cons x l => cases h

set_option maxHeartbeats 1000000 in
theorem phGet (p : Value) (n : Nat) (l : List PItem) (id : Int) : Ct Try.prog 38 #[p, .int .i64 id] [hO p n l] (fun v ps => v = pGet l id ∧ ps = [hO p n l]) := by
  refine Ct.enter Try.func38 rfl (Nat.le_of_ble_eq_true rfl) ?_
  intro oo w R hS
  change RC _ _ _ _ _ _ [(0, _), (1, _)] _
  have hok := (hO_pok hS).1
  refine RC.seq ?_
  refine RC.region rfl ?_
  refine RL.q (Qt.as rfl) ?_
  refine RL.q (Qt.as rfl) ?_
  refine RL.q (Qt.as rfl) ?_
  refine RL.nil ?_
  refine RE.sqN ?_
  refine RC.seq ?_
  refine RC.seq ?_
  refine RC.region rfl ?_
  refine RL.q (Qt.mv rfl) ?_
  refine RL.q (Qt.mv rfl) ?_
  -- stops: op call
  refine RL.e (Ef.call hS (phMay p n l id true) rfl rfl Try.call82 [0] [1] (by decide) rfl rfl) ?_
  rintro v9 w ⟨ps, ⟨rfl, rfl⟩, hS⟩
  refine RL.q (Qt.neq rfl rfl) ?_
  refine RL.nil ?_
  refine RE.sqN ?_
  -- stops: cond
  refine RC.cond rfl (fun h => ?_) (fun h => ?_)
  · refine RC.seq ?_
    refine RC.region rfl ?_
    refine RL.q (Qt.as rfl) ?_
    refine RL.q (Qt.as rfl) ?_
    refine RL.q (Qt.as rfl) ?_
    refine RL.nil ?_
    refine RE.sqN ?_
    refine RC.ret ?_
    refine RE.sqR ?_
    -- stops: end ret
    have h : ¬ pErr l n id true = 0 := by simpa using h
    have hx : id ∉ pIds l := fun hx => h (pErr_ok1 (by
      obtain ⟨y, hy, e⟩ := List.mem_map.1 hx
      have := hok.range y hy
      omega) hx)
    exact RE.retB rfl ⟨by rw [pGet_none hx]; rfl, rfl⟩ hS
  · skip
    have h : pErr l n id true = 0 := by simpa using h
    obtain ⟨h0, hx⟩ := pErr_is1 h
    obtain ⟨y, hy, rfl⟩ := List.mem_map.1 hx
    obtain ⟨f, root, many, tr, b, bl, cap, rfl, hi, hn1, hn2, hS⟩ := hO_open hS
    have hv := hi.vals y hy
    have hS0 := hS
    obtain ⟨c, hc, hS⟩ := hS.tabOpen 1 rfl
    try simp only [List.set_cons_zero, List.set_cons_succ] at hS
    have hsz := hc.size
    have hd : f.dl y.id = y.dl := congrArg PItem.dl hv
    have hs : f.sq y.id = y.sq := congrArg PItem.sq hv
    refine RC.skip ?_
    refine RE.sqN ?_
    refine RC.seq ?_
    refine RC.drawn 21 [0, 1, 2, 3, 4, 5, 6, 7, 8, 9, 10, 11, 12, 13, 14, 15, 16, 17, 18, 19, 20] (Same _) (by kernel_rfl) (by kernel_rfl) Same.drew (fun hh => ?_)
    replace hS := hS.drew
    refine RH.q hh (Calm.sq Calm.body) rfl (by kernel_rfl) (Qt.mv rfl) ?_
    refine RH.q hh (Calm.sq Calm.body) rfl (by kernel_rfl) (Qt.nil rfl) ?_
    refine RH.q hh (Calm.sq Calm.body) rfl (by kernel_rfl) (Qt.fld rfl) ?_
    refine RH.q hh (Calm.sq Calm.body) rfl (by kernel_rfl) (Qt.ld rfl (by first | exact hS.at 0 rfl | exact hS.at 1 rfl | exact hS.at 2 rfl) (by first | exact pr0 hc h0.1 h0.2 | exact pr1 hc h0.1 h0.2 | rfl)) ?_
    refine RH.q hh (Calm.sq Calm.body) rfl (by kernel_rfl) (Qt.mv rfl) ?_
    refine RH.q hh (Calm.sq Calm.body) rfl (by kernel_rfl) (Qt.ixS rfl rfl (by first | assumption | omega | (dsimp only; omega)) (by first | assumption | omega | (dsimp only; omega))) ?_
    refine RH.q hh (Calm.sq Calm.body) rfl (by kernel_rfl) (Qt.fld rfl) ?_
    refine RH.q hh (Calm.sq Calm.body) rfl (by kernel_rfl) (Qt.fld rfl) ?_
    refine RH.q hh (Calm.sq Calm.body) rfl (by kernel_rfl) (Qt.ld rfl (by first | exact hS.at 0 rfl | exact hS.at 1 rfl | exact hS.at 2 rfl) (by first | exact pr0 hc h0.1 h0.2 | exact pr1 hc h0.1 h0.2 | rfl)) ?_
    refine RH.q hh (Calm.sq Calm.body) rfl (by kernel_rfl) (Qt.mv rfl) ?_
    refine RH.q hh (Calm.sq Calm.body) rfl (by kernel_rfl) (Qt.nil rfl) ?_
    refine RH.q hh (Calm.sq Calm.body) rfl (by kernel_rfl) (Qt.fld rfl) ?_
    refine RH.q hh (Calm.sq Calm.body) rfl (by kernel_rfl) (Qt.ld rfl (by first | exact hS.at 0 rfl | exact hS.at 1 rfl | exact hS.at 2 rfl) (by first | exact pr0 hc h0.1 h0.2 | exact pr1 hc h0.1 h0.2 | rfl)) ?_
    refine RH.q hh (Calm.sq Calm.body) rfl (by kernel_rfl) (Qt.mv rfl) ?_
    refine RH.q hh (Calm.sq Calm.body) rfl (by kernel_rfl) (Qt.ixS rfl rfl (by first | assumption | omega | (dsimp only; omega)) (by first | assumption | omega | (dsimp only; omega))) ?_
    refine RH.q hh (Calm.sq Calm.body) rfl (by kernel_rfl) (Qt.fld rfl) ?_
    refine RH.q hh (Calm.sq Calm.body) rfl (by kernel_rfl) (Qt.fld rfl) ?_
    refine RH.q hh (Calm.sq Calm.body) rfl (by kernel_rfl) (Qt.ld rfl (by first | exact hS.at 0 rfl | exact hS.at 1 rfl | exact hS.at 2 rfl) (by first | exact pr0 hc h0.1 h0.2 | exact pr1 hc h0.1 h0.2 | rfl)) ?_
    refine RH.q hh (Calm.sq Calm.body) rfl (by kernel_rfl) (Qt.as rfl) ?_
    refine RH.q hh (Calm.sq Calm.body) rfl (by kernel_rfl) (Qt.as rfl) ?_
    refine RH.q hh (Calm.sq Calm.body) rfl (by kernel_rfl) (Qt.as rfl) ?_
    refine RH.done hh (by kernel_rfl) ?_
    refine RL.nil ?_
    refine RE.sqN ?_
    refine RC.ret ?_
    -- stops: end ret
    exact RE.retB rfl ⟨by rw [pGet_some hok.nodup hy, ← hd, ← hs]; rfl, rfl⟩ (hO_shut hi hn1 hn2 (hS.tabShut 1 rfl hc))

set_option maxHeartbeats 1000000 in
theorem phLen (p : Value) (n : Nat) (l : List PItem) : Ct Try.prog 33 #[p] [hO p n l] (fun v ps => v = .int .i64 l.length ∧ ps = [hO p n l]) := by
  refine Ct.enter Try.func33 rfl (Nat.le_of_ble_eq_true rfl) ?_
  intro oo w R hS
  change RC _ _ _ _ _ _ [(0, _)] _
  obtain ⟨f, root, many, tr, b, bl, cap, rfl, hi, hn1, hn2, hS⟩ := hO_open hS
  have hm := hi.many
  subst hm
  refine RC.seq ?_
  refine RC.region rfl ?_
  refine RL.q (Qt.as rfl) ?_
  refine RL.nil ?_
  refine RE.sqN ?_
  refine RC.seq ?_
  refine RC.seq ?_
  refine RC.region rfl ?_
  refine RL.q (Qt.mv rfl) ?_
  refine RL.q (Qt.eqlN rfl rfl) ?_
  refine RL.nil ?_
  refine RE.sqN ?_
  -- stops: cond
  refine RC.condF rfl (rfl) ?_
  refine RC.skip ?_
  refine RE.sqN ?_
  refine RC.seq ?_
  refine RC.region rfl ?_
  refine RL.q (Qt.mv rfl) ?_
  refine RL.q (Qt.nil rfl) ?_
  refine RL.q (Qt.fld rfl) ?_
  refine RL.q (Qt.ld rfl (by first | exact hS.at 0 rfl | exact hS.at 1 rfl | exact hS.at 2 rfl) (by first  | rfl)) ?_
  refine RL.q (Qt.as rfl) ?_
  refine RL.nil ?_
  refine RE.sqN ?_
  refine RC.ret ?_
  -- stops: end ret
  exact RE.retB rfl ⟨rfl, rfl⟩ (hO_shut hi hn1 hn2 hS)
end Go.Proofs

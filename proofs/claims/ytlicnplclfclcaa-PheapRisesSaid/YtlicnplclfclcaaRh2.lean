/- The reference's heap of layer 3: its order, may, put, Insert, Change, Delete, Min, Take, Get, New. -/
import Derived.Test.YtlicnplclfclcaaRh
namespace Go.Proofs
open Go Go.Gx
variable {oo : World}

set_option maxHeartbeats 1000000 in
theorem rhAhead (x y : PItem) : Ct Try.prog 146 #[.agg x.cells.toArray, .agg y.cells.toArray] [] (fun v ps => v = .bool (decide (PItem.lt x y)) ∧ ps = []) := by
  refine Ct.enter Try.func146 rfl (Nat.le_of_ble_eq_true rfl) ?_
  intro oo w R hS
  change RC _ _ _ _ _ _ [(0, _), (1, _)] _
  refine RC.seq ?_
  refine RC.region rfl ?_
  refine RL.e (Ef.box hS rfl) ?_
  rintro _ w ⟨b2, rfl, hS⟩
  try simp (disch := omega) only [cells_agg'] at hS
  refine RL.e (Ef.box hS rfl) ?_
  rintro _ w ⟨b3, rfl, hS⟩
  try simp (disch := omega) only [cells_agg'] at hS
  refine RL.q (Qt.as rfl) ?_
  refine RL.nil ?_
  refine RE.sqN ?_
  refine RC.seq ?_
  refine RC.seq ?_
  refine RC.region rfl ?_
  refine RL.q (Qt.fld rfl) ?_
  refine RL.q (Qt.ld rfl (by first | exact hS.at 0 rfl | exact hS.at 1 rfl | exact hS.at 2 rfl) (by first  | rfl)) ?_
  refine RL.q (Qt.fld rfl) ?_
  refine RL.q (Qt.ld rfl (by first | exact hS.at 0 rfl | exact hS.at 1 rfl | exact hS.at 2 rfl) (by first  | rfl)) ?_
  refine RL.q (Qt.neq rfl rfl) ?_
  refine RL.nil ?_
  refine RE.sqN ?_
  -- stops: cond
  refine RC.cond rfl (fun h => ?_) (fun h => ?_)
  · refine RC.seq ?_
    refine RC.region rfl ?_
    refine RL.q (Qt.fld rfl) ?_
    refine RL.q (Qt.ld rfl (by first | exact hS.at 0 rfl | exact hS.at 1 rfl | exact hS.at 2 rfl) (by first  | rfl)) ?_
    refine RL.q (Qt.fld rfl) ?_
    refine RL.q (Qt.ld rfl (by first | exact hS.at 0 rfl | exact hS.at 1 rfl | exact hS.at 2 rfl) (by first  | rfl)) ?_
    refine RL.q (Qt.lss rfl rfl) ?_
    refine RL.q (Qt.as rfl) ?_
    refine RL.nil ?_
    refine RE.sqN ?_
    refine RC.ret ?_
    refine RE.sqR ?_
    -- stops: end ret
    have h : x.dl ≠ y.dl := of_decide_eq_true h
    refine RE.retB rfl ⟨?_, rfl⟩ (hS.pick [2] (by decide) rfl)
    simp only [oneOf, Value.bool.injEq]
    exact decide_eq_decide.2 (by unfold PItem.lt; omega)
  · skip
    have h : x.dl = y.dl := Classical.not_not.1 (of_decide_eq_false h)
    refine RC.skip ?_
    refine RE.sqN ?_
    refine RC.seq ?_
    refine RC.seq ?_
    refine RC.region rfl ?_
    refine RL.q (Qt.fld rfl) ?_
    refine RL.q (Qt.ld rfl (by first | exact hS.at 0 rfl | exact hS.at 1 rfl | exact hS.at 2 rfl) (by first  | rfl)) ?_
    refine RL.q (Qt.fld rfl) ?_
    refine RL.q (Qt.ld rfl (by first | exact hS.at 0 rfl | exact hS.at 1 rfl | exact hS.at 2 rfl) (by first  | rfl)) ?_
    refine RL.q (Qt.neq rfl rfl) ?_
    refine RL.nil ?_
    refine RE.sqN ?_
    -- stops: cond
    refine RC.cond rfl (fun h2 => ?_) (fun h2 => ?_)
    · refine RC.seq ?_
      refine RC.region rfl ?_
      refine RL.q (Qt.fld rfl) ?_
      refine RL.q (Qt.ld rfl (by first | exact hS.at 0 rfl | exact hS.at 1 rfl | exact hS.at 2 rfl) (by first  | rfl)) ?_
      refine RL.q (Qt.fld rfl) ?_
      refine RL.q (Qt.ld rfl (by first | exact hS.at 0 rfl | exact hS.at 1 rfl | exact hS.at 2 rfl) (by first  | rfl)) ?_
      refine RL.q (Qt.lss rfl rfl) ?_
      refine RL.q (Qt.as rfl) ?_
      refine RL.nil ?_
      refine RE.sqN ?_
      refine RC.ret ?_
      refine RE.sqR ?_
      -- stops: end ret
      have h2 : x.sq ≠ y.sq := of_decide_eq_true h2
      refine RE.retB rfl ⟨?_, rfl⟩ (hS.pick [2] (by decide) rfl)
      simp only [oneOf, Value.bool.injEq]
      exact decide_eq_decide.2 (by unfold PItem.lt; omega)
    · refine RC.skip ?_
      refine RE.sqN ?_
      refine RC.seq ?_
      refine RC.region rfl ?_
      refine RL.q (Qt.fld rfl) ?_
      refine RL.q (Qt.ld rfl (by first | exact hS.at 0 rfl | exact hS.at 1 rfl | exact hS.at 2 rfl) (by first  | rfl)) ?_
      refine RL.q (Qt.fld rfl) ?_
      refine RL.q (Qt.ld rfl (by first | exact hS.at 0 rfl | exact hS.at 1 rfl | exact hS.at 2 rfl) (by first  | rfl)) ?_
      refine RL.q (Qt.lss rfl rfl) ?_
      refine RL.q (Qt.as rfl) ?_
      refine RL.nil ?_
      refine RE.sqN ?_
      refine RC.ret ?_
      -- stops: end ret
      have h2 : x.sq = y.sq := Classical.not_not.1 (of_decide_eq_false h2)
      refine RE.retB rfl ⟨?_, rfl⟩ (hS.pick [2] (by decide) rfl)
      simp only [oneOf, Value.bool.injEq]
      exact decide_eq_decide.2 (by unfold PItem.lt; omega)

set_option maxHeartbeats 1000000 in
theorem rhMay (p : Value) (n : Nat) (l : List PItem) (id : Int) (t : Bool) : Ct Try.prog 129 #[p, .int .i64 id, .bool t] [rhO p n l] (fun v ps => v = .int .i64 (pErr l n id t) ∧ ps = [rhO p n l]) := by
  refine Ct.enter Try.func129 rfl (Nat.le_of_ble_eq_true rfl) ?_
  intro oo w R hS
  change RC _ _ _ _ _ _ [(0, _), (1, _), (2, _)] _
  have hS0 := hS
  obtain ⟨b, sp, cap, rfl, hl, hS⟩ := rhO_open hS
  refine RC.seq ?_
  refine RC.region rfl ?_
  refine RL.q (Qt.as rfl) ?_
  refine RL.nil ?_
  refine RE.sqN ?_
  refine RC.seq ?_
  refine RC.block ?_
  refine RC.seq ?_
  refine RC.region rfl ?_
  refine RL.q (Qt.mv rfl) ?_
  refine RL.q (Qt.eqlN rfl rfl) ?_
  refine RL.q (Qt.as rfl) ?_
  refine RL.nil ?_
  refine RE.sqN ?_
  -- stops: cond
  refine RC.condF rfl (rfl) ?_
  refine RC.seq ?_
  refine RC.region rfl ?_
  refine RL.q (Qt.mv rfl) ?_
  refine RL.q (Qt.lss rfl rfl) ?_
  refine RL.q (Qt.mv rfl) ?_
  refine RLG.start 13 false rfl ?_
  refine RLG.q rfl rfl rfl (fun _ => Qt.mv rfl) ?_
  refine RLG.q rfl rfl rfl (fun _ => Qt.mv rfl) ?_
  refine RLG.q rfl rfl rfl (fun _ => Qt.nil rfl) ?_
  refine RLG.q rfl rfl rfl (fun _ => Qt.fld rfl) ?_
  refine RLG.q rfl rfl rfl (fun hg => by (try simp only [decide_eq_false_iff_not] at hg); exact Qt.ld rfl (by first | exact hS.at 0 rfl | exact hS.at 1 rfl | exact hS.at 2 rfl) (by first  | rfl)) ?_
  refine RLG.q rfl rfl rfl (fun hg => by (try simp only [decide_eq_false_iff_not] at hg); exact Qt.geq rfl rfl) ?_
  refine RLG.or rfl rfl ?_
  refine RL.q (Qt.as rfl) ?_
  refine RL.nil ?_
  refine RE.sqN ?_
  -- stops: cond
  have hS := rhO_shut hl hS
  refine RC.cond rfl (fun h => ?_) (fun h => ?_)
  · refine RC.seq ?_
    refine RC.region rfl ?_
    refine RL.q (Qt.as rfl) ?_
    refine RL.nil ?_
    refine RE.sqN ?_
    refine RC.ret ?_
    refine RE.bkR ?_
    refine RE.sqR ?_
    -- stops: end ret
    have h : id < 0 ∨ id ≥ n := by simpa using h
    exact RE.retB rfl ⟨by rw [pErr_range h]; rfl, rfl⟩ hS
  · skip
    have h : ¬ (id < 0 ∨ id ≥ n) := by simpa using h
    cases t with
    | true =>
      refine RC.seq ?_
      refine RC.region rfl ?_
      refine RL.q (Qt.mv rfl) ?_
      refine RL.q (Qt.mv rfl) ?_
      -- stops: guard
      refine RL.q (Qt.mv rfl) ?_ (Runs.guard rfl rfl rfl (rfl))
      refine RL.q (Qt.mv rfl) ?_ (Runs.guard rfl rfl rfl (rfl))
      -- stops: op call
      refine RL.e (Ef.call hS (rhAt _ n l id) rfl rfl Try.call128 [0] [1] (by decide) rfl rfl) ?_ (Runs.guard rfl rfl rfl (rfl))
      rintro v26 w ⟨ps, ⟨rfl, rfl⟩, hS⟩
      refine RL.q (Qt.lss rfl rfl) ?_ (Runs.guard rfl rfl rfl (rfl))
      refine RL.q ((by first | exact Qt.pickT rfl (by assumption) rfl | exact Qt.pickF rfl (by assumption) rfl | exact Qt.pickT rfl rfl rfl | exact Qt.pickF rfl rfl rfl)) ?_
      refine RL.q (Qt.as rfl) ?_
      refine RL.nil ?_
      refine RE.sqN ?_
      -- stops: cond
      refine RC.cond rfl (fun h2 => ?_) (fun h2 => ?_)
      · refine RC.seq ?_
        refine RC.region rfl ?_
        refine RL.q (Qt.as rfl) ?_
        refine RL.nil ?_
        refine RE.sqN ?_
        refine RC.ret ?_
        refine RE.bkR ?_
        refine RE.sqR ?_
        -- stops: end ret
        have h2 : id ∉ pIds l := ixOf_neg.1 (of_decide_eq_true h2)
        exact RE.retB rfl ⟨by rw [pErr_none h h2]; rfl, rfl⟩ hS
      · skip
        have h2 : id ∈ pIds l := ixOf_mem.1 (Int.not_lt.1 (of_decide_eq_false h2))
        refine RC.seq ?_
        refine RC.region rfl ?_
        refine RL.q (Qt.mv rfl) ?_
        refine RL.q (Qt.not rfl) ?_
        refine RL.q (Qt.mv rfl) ?_
        -- stops: guard
        refine RL.s (Skips.guard rfl rfl rfl (rfl)) ?_
        refine RL.s (Skips.guard rfl rfl rfl (rfl)) ?_
        refine RL.s (Skips.guard rfl rfl rfl (rfl)) ?_
        refine RL.s (Skips.guard rfl rfl rfl (rfl)) ?_
        refine RL.q ((by first | exact Qt.pickT rfl (by assumption) rfl | exact Qt.pickF rfl (by assumption) rfl | exact Qt.pickT rfl rfl rfl | exact Qt.pickF rfl rfl rfl)) ?_
        refine RL.q (Qt.as rfl) ?_
        refine RL.nil ?_
        refine RE.sqN ?_
        -- stops: cond
        refine RC.condF rfl (rfl) ?_
        refine RC.skip ?_
        refine RE.bkN ?_
        refine RE.sqN ?_
        refine RC.seq ?_
        refine RC.region rfl ?_
        refine RL.q (Qt.as rfl) ?_
        refine RL.nil ?_
        refine RE.sqN ?_
        refine RC.ret ?_
        -- stops: end ret
        exact RE.retB rfl ⟨by rw [pErr_ok1 h h2]; rfl, rfl⟩ hS
    | false =>
      refine RC.seq ?_
      refine RC.region rfl ?_
      refine RL.q (Qt.mv rfl) ?_
      refine RL.q (Qt.mv rfl) ?_
      -- stops: guard
      refine RL.s (Skips.guard rfl rfl rfl (rfl)) ?_
      refine RL.s (Skips.guard rfl rfl rfl (rfl)) ?_
      refine RL.s (Skips.guard rfl rfl rfl (rfl)) ?_
      refine RL.s (Skips.guard rfl rfl rfl (rfl)) ?_
      refine RL.q ((by first | exact Qt.pickT rfl (by assumption) rfl | exact Qt.pickF rfl (by assumption) rfl | exact Qt.pickT rfl rfl rfl | exact Qt.pickF rfl rfl rfl)) ?_
      refine RL.q (Qt.as rfl) ?_
      refine RL.nil ?_
      refine RE.sqN ?_
      -- stops: cond
      refine RC.condF rfl (rfl) ?_
      refine RC.seq ?_
      refine RC.region rfl ?_
      refine RL.q (Qt.mv rfl) ?_
      refine RL.q (Qt.not rfl) ?_
      refine RL.q (Qt.mv rfl) ?_
      -- stops: guard
      refine RL.q (Qt.mv rfl) ?_ (Runs.guard rfl rfl rfl (rfl))
      refine RL.q (Qt.mv rfl) ?_ (Runs.guard rfl rfl rfl (rfl))
      -- stops: op call
      refine RL.e (Ef.call hS (rhAt _ n l id) rfl rfl Try.call128 [0] [1] (by decide) rfl rfl) ?_ (Runs.guard rfl rfl rfl (rfl))
      rintro v35 w ⟨ps, ⟨rfl, rfl⟩, hS⟩
      refine RL.q (Qt.geq rfl rfl) ?_ (Runs.guard rfl rfl rfl (rfl))
      refine RL.q ((by first | exact Qt.pickT rfl (by assumption) rfl | exact Qt.pickF rfl (by assumption) rfl | exact Qt.pickT rfl rfl rfl | exact Qt.pickF rfl rfl rfl)) ?_
      refine RL.q (Qt.as rfl) ?_
      refine RL.nil ?_
      refine RE.sqN ?_
      -- stops: cond
      refine RC.cond rfl (fun h2 => ?_) (fun h2 => ?_)
      · refine RC.seq ?_
        refine RC.region rfl ?_
        refine RL.q (Qt.as rfl) ?_
        refine RL.nil ?_
        refine RE.sqN ?_
        refine RC.ret ?_
        refine RE.bkR ?_
        refine RE.sqR ?_
        -- stops: end ret
        have h2 : id ∈ pIds l := ixOf_mem.1 (of_decide_eq_true h2)
        exact RE.retB rfl ⟨by rw [pErr_known h h2]; rfl, rfl⟩ hS
      · refine RC.skip ?_
        refine RE.bkN ?_
        refine RE.sqN ?_
        refine RC.seq ?_
        refine RC.region rfl ?_
        refine RL.q (Qt.as rfl) ?_
        refine RL.nil ?_
        refine RE.sqN ?_
        refine RC.ret ?_
        -- stops: end ret
        have h2 : id ∉ pIds l := fun e => of_decide_eq_false h2 (ixOf_mem.2 e)
        exact RE.retB rfl ⟨by rw [pErr_ok0 h h2]; rfl, rfl⟩ hS

set_option maxHeartbeats 2000000 in
theorem rhPut (p : Value) (n : Nat) (l : List PItem) (x : PItem) (hlen : l.length < 1000000) : Ct Try.prog 130 #[p, .agg x.cells.toArray] [rhO p n l] (fun v ps => v = .tuple #[] ∧ ps = [rhO p n (pput x l)]) := by
  refine Ct.enter Try.func130 rfl (Nat.le_of_ble_eq_true rfl) ?_
  intro oo w R hS
  change RC _ _ _ _ _ _ [(0, _), (1, _)] _
  obtain ⟨b, sp, cap, rfl, hl, hS⟩ := rhO_open hS
  have hS := (hS.nilOwn (T := 160) (sz := 3))
  refine RC.seq ?_
  refine RC.region rfl ?_
  refine RL.e (Ef.box hS rfl) ?_
  rintro _ w ⟨b3, rfl, hS⟩
  try simp (disch := omega) only [cells_agg'] at hS
  refine RL.nil ?_
  refine RE.sqN ?_
  refine RC.seq ?_
  refine RC.region rfl ?_
  refine RL.q (Qt.as rfl) ?_
  refine RL.nil ?_
  refine RE.sqN ?_
  refine RC.seq ?_
  refine RC.region rfl ?_
  refine RL.q (Qt.as rfl) ?_
  refine RL.nil ?_
  refine RE.sqN ?_
  refine RC.seq ?_
  refine RC.seq ?_
  refine RC.region rfl ?_
  refine RL.q (Qt.as rfl) ?_
  refine RL.nil ?_
  refine RE.sqN ?_
  refine RC.block ?_
  -- stops: loop
  refine RC.loop (γ := (Nat × List PItem) × (Value × Bool)) (fun g E w' => E = [(6, .int .i64 g.1.1), (5, .bool g.2.2), (4, g.2.1), (3, .pointer (some ⟨b3, 0, none⟩)), (0, .pointer (some ⟨b, 0, none⟩))] ∧ g.1.1 ≤ l.length ∧ g.1.2.length = g.1.1 + (if g.2.2 then 1 else 0) ∧ g.1.2 ++ (if g.2.2 then l.drop g.1.1 else pput x (l.drop g.1.1)) = pput x l ∧
    Sat oo w' [own g.2.1 160 3 g.1.2.length (g.1.2.flatMap PItem.cells), pt b3 (.cells x.cells.toArray 160 (0, 0)), pt b (.cells #[.int .i64 n, .slice sp l.length cap] 124 (0, 0)), own (.slice sp l.length cap) 160 3 l.length (l.flatMap PItem.cells), R]) (fun g => l.length - g.1.1) ((0, []), (.slice none 0 0, false)) _ (by (repeat (first | exact Sub.nil | refine Sub.cons rfl ?_))) ⟨rfl, by simp, rfl, by simp, hS.pick [1, 0, 2, 3, 4] (by decide) rfl⟩ ?_
  clear hS
  rintro ⟨⟨k, m⟩, v, pl⟩ E w ⟨rfl, hk, hml, hm, hS⟩
  dsimp only at hk hml hm hS
  have hm1 : m.length ≤ k + 1 := by rw [hml]; split <;> omega
  refine RC.seq ?_
  refine RC.seq ?_
  refine RC.region rfl ?_
  refine RL.q (Qt.mv rfl) ?_
  refine RL.q (Qt.mv rfl) ?_
  refine RL.q (Qt.nil rfl) ?_
  refine RL.q (Qt.fld rfl) ?_
  refine RL.q (Qt.ld rfl (by first | exact hS.at 0 rfl | exact hS.at 1 rfl | exact hS.at 2 rfl | exact hS.at 3 rfl | exact hS.at 4 rfl) (by first  | rfl)) ?_
  refine RL.q (Qt.lenS rfl) ?_
  refine RL.q (Qt.lss rfl rfl) ?_
  refine RL.nil ?_
  refine RE.sqN ?_
  -- stops: cond
  refine RC.cond rfl (fun h => ?_) (fun h => ?_)
  · skip
    have hlt : k < l.length := by simpa using h
    have hd : l.drop k = l[k] :: l.drop (k + 1) := List.drop_eq_getElem_cons hlt
    rw [hd] at hm
    obtain ⟨bs, cap', c, hv, hc1, hc2, hc3, hc4, hS⟩ := hS.ownPos 3 rfl (by omega)
    cases hv
    have hrow := row_cells (f := PItem.cells) (sz := 3) (fun _ => rfl) hc4 rfl (by rw [hc1]; exact Nat.mul_le_mul_right _ hc2) hlt (k := 0 + ((k : Nat) : Int).toNat * 3) (by omega)
    obtain ⟨spo, cpo, rfl⟩ := hS.ownForm 0 rfl
    have hxr : x.cells.toArray.extract 0 (0 + 3) = x.cells.toArray := rfl
    cases pl with
    | true =>
      simp only [if_true] at hm hml
      refine RC.skip ?_
      refine RE.sqN ?_
      refine RC.seq ?_
      refine RC.block ?_
      refine RC.seq ?_
      refine RC.seq ?_
      -- stops: drawn
      refine RC.drawn 13 [0, 1, 2, 3, 4, 5, 6, 7, 8, 9, 10, 11, 12] (Same _) (by kernel_rfl) (by kernel_rfl) Same.drew (fun hh => ?_)
      replace hS := hS.drew
      refine RH.q hh (Calm.sq (Calm.sq (Calm.bk (Calm.sq (Calm.lp (Calm.bk (Calm.sq Calm.body))))))) rfl (by kernel_rfl) (Qt.mv rfl) ?_
      refine RH.q hh (Calm.sq (Calm.sq (Calm.bk (Calm.sq (Calm.lp (Calm.bk (Calm.sq Calm.body))))))) rfl (by kernel_rfl) (Qt.not rfl) ?_
      refine RH.q hh (Calm.sq (Calm.sq (Calm.bk (Calm.sq (Calm.lp (Calm.bk (Calm.sq Calm.body))))))) rfl (by kernel_rfl) (Qt.mv rfl) ?_
      refine RHG.start 18 true rfl ?_
      refine RHG.q (v := .bool false) hh (Calm.sq (Calm.sq (Calm.bk (Calm.sq (Calm.lp (Calm.bk (Calm.sq Calm.body))))))) rfl (by kernel_rfl) rfl rfl rfl (fun h => by cases h) ?_
      refine RHG.q (v := .bool false) hh (Calm.sq (Calm.sq (Calm.bk (Calm.sq (Calm.lp (Calm.bk (Calm.sq Calm.body))))))) rfl (by kernel_rfl) rfl rfl rfl (fun h => by cases h) ?_
      refine RHG.q (v := .bool false) hh (Calm.sq (Calm.sq (Calm.bk (Calm.sq (Calm.lp (Calm.bk (Calm.sq Calm.body))))))) rfl (by kernel_rfl) rfl rfl rfl (fun h => by cases h) ?_
      refine RHG.q (v := .bool false) hh (Calm.sq (Calm.sq (Calm.bk (Calm.sq (Calm.lp (Calm.bk (Calm.sq Calm.body))))))) rfl (by kernel_rfl) rfl rfl rfl (fun h => by cases h) ?_
      refine RHG.q (v := .bool false) hh (Calm.sq (Calm.sq (Calm.bk (Calm.sq (Calm.lp (Calm.bk (Calm.sq Calm.body))))))) rfl (by kernel_rfl) rfl rfl rfl (fun h => by cases h) ?_
      refine RHG.q (v := .bool false) hh (Calm.sq (Calm.sq (Calm.bk (Calm.sq (Calm.lp (Calm.bk (Calm.sq Calm.body))))))) rfl (by kernel_rfl) rfl rfl rfl (fun h => by cases h) ?_
      refine RHG.q (v := .bool false) hh (Calm.sq (Calm.sq (Calm.bk (Calm.sq (Calm.lp (Calm.bk (Calm.sq Calm.body))))))) rfl (by kernel_rfl) rfl rfl rfl (fun h => by cases h) ?_
      refine RHG.q (v := .bool false) hh (Calm.sq (Calm.sq (Calm.bk (Calm.sq (Calm.lp (Calm.bk (Calm.sq Calm.body))))))) rfl (by kernel_rfl) rfl rfl rfl (fun h => by cases h) ?_
      refine RHG.q (v := .bool false) hh (Calm.sq (Calm.sq (Calm.bk (Calm.sq (Calm.lp (Calm.bk (Calm.sq Calm.body))))))) rfl (by kernel_rfl) rfl rfl rfl (fun h => by cases h) ?_
      refine RHG.and hh (Calm.sq (Calm.sq (Calm.bk (Calm.sq (Calm.lp (Calm.bk (Calm.sq Calm.body))))))) rfl (by kernel_rfl) rfl rfl ?_
      refine RH.done hh (by kernel_rfl) ?_
      refine RL.nil ?_
      refine RE.sqN ?_
      -- stops: cond
      refine RC.condF rfl (rfl) ?_
      refine RC.skip ?_
      refine RE.sqN ?_
      refine RC.region rfl ?_
      refine RL.q (Qt.mv rfl) ?_
      refine RL.q (Qt.mv rfl) ?_
      refine RL.q (Qt.nil rfl) ?_
      refine RL.q (Qt.fld rfl) ?_
      refine RL.q (Qt.ld rfl (by first | exact hS.at 0 rfl | exact hS.at 1 rfl | exact hS.at 2 rfl | exact hS.at 3 rfl | exact hS.at 4 rfl) (by first  | rfl)) ?_
      refine RL.q (Qt.mv rfl) ?_
      refine RL.q (Qt.ixS rfl rfl (by first | assumption | omega | (dsimp only; omega)) (by first | assumption | omega | (dsimp only; omega))) ?_
      refine RL.q (Qt.ldA rfl (by first | exact hS.at 0 rfl | exact hS.at 1 rfl | exact hS.at 2 rfl | exact hS.at 3 rfl | exact hS.at 4 rfl) (by first | exact hrow | exact hxr | rfl) (by first | exact Nat.le_of_ble_eq_true rfl | omega | (simp only []; omega))) ?_
      refine RL.e (Ef.bsl1 hS rfl) ?_
      rintro _ w ⟨b41, rfl, hS⟩
      try simp (disch := omega) only [List.set_cons_zero, List.set_cons_succ, cells_agg'] at hS
      first | refine RL.e (Ef.app (k := 1) hS rfl rfl rfl (Src.pt (hS.get 0 rfl) (by first | exact Nat.le_of_ble_eq_true rfl | omega | (simp only [Array.size_map]; omega))) (by first | assumption | omega | (dsimp only; omega)) (by first | rfl | simp)) ?_ | refine RL.e (Ef.app (k := 1) hS rfl rfl rfl (Src.pt (hS.get 1 rfl) (by first | exact Nat.le_of_ble_eq_true rfl | omega | (simp only [Array.size_map]; omega))) (by first | assumption | omega | (dsimp only; omega)) (by first | rfl | simp)) ?_ | refine RL.e (Ef.app (k := 1) hS rfl rfl rfl (Src.pt (hS.get 2 rfl) (by first | exact Nat.le_of_ble_eq_true rfl | omega | (simp only [Array.size_map]; omega))) (by first | assumption | omega | (dsimp only; omega)) (by first | rfl | simp)) ?_ | refine RL.e (Ef.app (k := 1) hS rfl rfl rfl (Src.pt (hS.get 3 rfl) (by first | exact Nat.le_of_ble_eq_true rfl | omega | (simp only [Array.size_map]; omega))) (by first | assumption | omega | (dsimp only; omega)) (by first | rfl | simp)) ?_ | refine RL.e (Ef.app (k := 1) hS rfl rfl rfl (Src.pt (hS.get 4 rfl) (by first | exact Nat.le_of_ble_eq_true rfl | omega | (simp only [Array.size_map]; omega))) (by first | assumption | omega | (dsimp only; omega)) (by first | rfl | simp)) ?_ | refine RL.e (Ef.app (k := 1) hS rfl rfl rfl (Src.pt (hS.get 5 rfl) (by first | exact Nat.le_of_ble_eq_true rfl | omega | (simp only [Array.size_map]; omega))) (by first | assumption | omega | (dsimp only; omega)) (by first | rfl | simp)) ?_ | refine RL.e (Ef.app (k := 1) hS rfl rfl rfl (Src.own hS 0 rfl) (by first | assumption | omega | (dsimp only; omega)) (by first | rfl | simp)) ?_ | refine RL.e (Ef.app (k := 1) hS rfl rfl rfl (Src.own hS 1 rfl) (by first | assumption | omega | (dsimp only; omega)) (by first | rfl | simp)) ?_ | refine RL.e (Ef.app (k := 1) hS rfl rfl rfl (Src.own hS 2 rfl) (by first | assumption | omega | (dsimp only; omega)) (by first | rfl | simp)) ?_ | refine RL.e (Ef.app (k := 1) hS rfl rfl rfl (Src.own hS 3 rfl) (by first | assumption | omega | (dsimp only; omega)) (by first | rfl | simp)) ?_ | refine RL.e (Ef.app (k := 1) hS rfl rfl rfl (Src.own hS 4 rfl) (by first | assumption | omega | (dsimp only; omega)) (by first | rfl | simp)) ?_ | refine RL.e (Ef.app (k := 1) hS rfl rfl rfl (Src.own hS 5 rfl) (by first | assumption | omega | (dsimp only; omega)) (by first | rfl | simp)) ?_
      intro s42 w hS
      simp only [List.set_cons_zero, List.set_cons_succ, List.drop_zero] at hS
      first | (obtain ⟨sp42, cp42, rfl⟩ := hS.ownForm 1 rfl)
      refine RL.q (Qt.as rfl) ?_
      refine RL.nil ?_
      refine RE.bkN ?_
      refine RE.sqN ?_
      refine RC.region rfl ?_
      refine RL.q (Qt.mv rfl) ?_
      refine RL.q ((by first | exact Qt.addI rfl rfl (by dsimp only [inK]; omega) | exact Qt.add rfl rfl)) ?_
      refine RL.q (Qt.as rfl) ?_
      refine RL.nil ?_
      -- stops: next
      have hS := (hS.pick [1, 2, 3, 4, 5] (by decide) rfl).ownMk (cap := cap) (n := l.length) (sz := 3) (cs := l.flatMap PItem.cells) 3 rfl hc1 hc2 hc3 hc4
      apply RE.lpN (((k + 1, m ++ [l[k]]), (.slice sp42 (m.length + 1) cp42, true)))
      case hI =>
        refine ⟨rfl, hlt, by simp [hml], by simpa using hm, ?_⟩
        dsimp only
        rw [len_snoc, flat_snoc]
        exact hS
      case hs => (repeat (first | exact Sub.nil | refine Sub.cons rfl ?_))
      case hm =>
        show l.length - (k + 1) < l.length - k
        omega
    | false =>
      simp only [Bool.false_eq_true, if_false] at hm hml
      refine RC.skip ?_
      refine RE.sqN ?_
      refine RC.seq ?_
      refine RC.block ?_
      refine RC.seq ?_
      refine RC.seq ?_
      -- stops: drawn
      refine RC.drawn 13 [0, 1, 2, 3, 4, 5, 6, 7, 8, 9, 10, 11, 12] (fun w' => w'.heap[b3]? = some (.cells x.cells.toArray 160 (0, 0)) ∧ w'.heap[b]? = some (.cells #[.int .i64 n, .slice (some ⟨bs, 0, none⟩) l.length cap] 124 (0, 0)) ∧ w'.heap[bs]? = some (.cells c 160 (0, 0))) (by kernel_rfl) (by kernel_rfl) (⟨by first | exact hS.drew.get 0 rfl | exact hS.drew.get 1 rfl | exact hS.drew.get 2 rfl | exact hS.drew.get 3 rfl | exact hS.drew.get 4 rfl | exact hS.drew.get 5 rfl | exact hS.drew.get 6 rfl, by first | exact hS.drew.get 0 rfl | exact hS.drew.get 1 rfl | exact hS.drew.get 2 rfl | exact hS.drew.get 3 rfl | exact hS.drew.get 4 rfl | exact hS.drew.get 5 rfl | exact hS.drew.get 6 rfl, by first | exact hS.drew.get 0 rfl | exact hS.drew.get 1 rfl | exact hS.drew.get 2 rfl | exact hS.drew.get 3 rfl | exact hS.drew.get 4 rfl | exact hS.drew.get 5 rfl | exact hS.drew.get 6 rfl⟩) (fun hh => ?_)
      replace hS := hS.drew
      refine RH.q hh (Calm.sq (Calm.sq (Calm.bk (Calm.sq (Calm.lp (Calm.bk (Calm.sq Calm.body))))))) rfl (by kernel_rfl) (Qt.mv rfl) ?_
      refine RH.q hh (Calm.sq (Calm.sq (Calm.bk (Calm.sq (Calm.lp (Calm.bk (Calm.sq Calm.body))))))) rfl (by kernel_rfl) (Qt.not rfl) ?_
      refine RH.q hh (Calm.sq (Calm.sq (Calm.bk (Calm.sq (Calm.lp (Calm.bk (Calm.sq Calm.body))))))) rfl (by kernel_rfl) (Qt.mv rfl) ?_
      refine RH.q hh (Calm.sq (Calm.sq (Calm.bk (Calm.sq (Calm.lp (Calm.bk (Calm.sq Calm.body))))))) rfl (by kernel_rfl) (Qt.ldA rfl (by first | exact fun _ h => h.1 | exact fun _ h => h.2.1 | exact fun _ h => h.2.2) (by first | exact hrow | exact hxr | rfl) (by first | exact Nat.le_of_ble_eq_true rfl | omega | (simp only [Array.size_map]; omega))) ?_ (Runs.guard rfl rfl rfl (rfl))
      refine RH.q hh (Calm.sq (Calm.sq (Calm.bk (Calm.sq (Calm.lp (Calm.bk (Calm.sq Calm.body))))))) rfl (by kernel_rfl) (Qt.mv rfl) ?_ (Runs.guard rfl rfl rfl (rfl))
      refine RH.q hh (Calm.sq (Calm.sq (Calm.bk (Calm.sq (Calm.lp (Calm.bk (Calm.sq Calm.body))))))) rfl (by kernel_rfl) (Qt.nil rfl) ?_ (Runs.guard rfl rfl rfl (rfl))
      refine RH.q hh (Calm.sq (Calm.sq (Calm.bk (Calm.sq (Calm.lp (Calm.bk (Calm.sq Calm.body))))))) rfl (by kernel_rfl) (Qt.fld rfl) ?_ (Runs.guard rfl rfl rfl (rfl))
      refine RH.q hh (Calm.sq (Calm.sq (Calm.bk (Calm.sq (Calm.lp (Calm.bk (Calm.sq Calm.body))))))) rfl (by kernel_rfl) (Qt.ld rfl (by first | exact fun _ h => h.1 | exact fun _ h => h.2.1 | exact fun _ h => h.2.2) (by first  | rfl)) ?_ (Runs.guard rfl rfl rfl (rfl))
      refine RH.q hh (Calm.sq (Calm.sq (Calm.bk (Calm.sq (Calm.lp (Calm.bk (Calm.sq Calm.body))))))) rfl (by kernel_rfl) (Qt.mv rfl) ?_ (Runs.guard rfl rfl rfl (rfl))
      refine RH.q hh (Calm.sq (Calm.sq (Calm.bk (Calm.sq (Calm.lp (Calm.bk (Calm.sq Calm.body))))))) rfl (by kernel_rfl) (Qt.ixS rfl rfl (by first | assumption | omega | (dsimp only; omega)) (by first | assumption | omega | (dsimp only; omega))) ?_ (Runs.guard rfl rfl rfl (rfl))
      refine RH.q hh (Calm.sq (Calm.sq (Calm.bk (Calm.sq (Calm.lp (Calm.bk (Calm.sq Calm.body))))))) rfl (by kernel_rfl) (Qt.ldA rfl (by first | exact fun _ h => h.1 | exact fun _ h => h.2.1 | exact fun _ h => h.2.2) (by first | exact hrow | exact hxr | rfl) (by first | exact Nat.le_of_ble_eq_true rfl | omega | (simp only []; omega))) ?_ (Runs.guard rfl rfl rfl (rfl))
      refine RH.e hh rfl (by kernel_rfl) (Ef.call hS (rhAhead x l[k]) rfl rfl Try.call146 [] [0, 1, 2, 3, 4] (by decide) rfl rfl) ?_ (Runs.guard rfl rfl rfl (rfl))
      rintro v27 w ⟨ps, ⟨rfl, rfl⟩, hS⟩
      refine ⟨⟨by first | exact hS.get 0 rfl | exact hS.get 1 rfl | exact hS.get 2 rfl | exact hS.get 3 rfl | exact hS.get 4 rfl | exact hS.get 5 rfl | exact hS.get 6 rfl, by first | exact hS.get 0 rfl | exact hS.get 1 rfl | exact hS.get 2 rfl | exact hS.get 3 rfl | exact hS.get 4 rfl | exact hS.get 5 rfl | exact hS.get 6 rfl, by first | exact hS.get 0 rfl | exact hS.get 1 rfl | exact hS.get 2 rfl | exact hS.get 3 rfl | exact hS.get 4 rfl | exact hS.get 5 rfl | exact hS.get 6 rfl⟩, ?_⟩
      refine RH.q hh (Calm.sq (Calm.sq (Calm.bk (Calm.sq (Calm.lp (Calm.bk (Calm.sq Calm.body))))))) rfl (by kernel_rfl) ((by first | exact Qt.pickT rfl (by assumption) rfl | exact Qt.pickF rfl (by assumption) rfl | exact Qt.pickT rfl rfl rfl | exact Qt.pickF rfl rfl rfl | exact Qt.pickT rfl (rfl) rfl)) ?_
      refine RH.done hh (by kernel_rfl) ?_
      refine RL.nil ?_
      refine RE.sqN ?_
      -- stops: cond
      refine RC.cond rfl (fun h2 => ?_) (fun h2 => ?_)
      · skip
        have h2 : PItem.lt x l[k] := by simpa using h2
        refine RC.seq ?_
        refine RC.region rfl ?_
        refine RL.q (Qt.mv rfl) ?_
        refine RL.q (Qt.ldA rfl (by first | exact hS.at 0 rfl | exact hS.at 1 rfl | exact hS.at 2 rfl | exact hS.at 3 rfl | exact hS.at 4 rfl) (by first | exact hrow | exact hxr | rfl) (by first | exact Nat.le_of_ble_eq_true rfl | omega | (simp only [Array.size_map]; omega))) ?_
        refine RL.e (Ef.bsl1 hS rfl) ?_
        rintro _ w ⟨b31, rfl, hS⟩
        try simp (disch := omega) only [cells_agg'] at hS
        first | refine RL.e (Ef.app (k := 1) hS rfl rfl rfl (Src.pt (hS.get 0 rfl) (by first | exact Nat.le_of_ble_eq_true rfl | omega | (simp only [Array.size_map]; omega))) (by first | assumption | omega | (dsimp only; omega)) (by first | rfl | simp)) ?_ | refine RL.e (Ef.app (k := 1) hS rfl rfl rfl (Src.pt (hS.get 1 rfl) (by first | exact Nat.le_of_ble_eq_true rfl | omega | (simp only [Array.size_map]; omega))) (by first | assumption | omega | (dsimp only; omega)) (by first | rfl | simp)) ?_ | refine RL.e (Ef.app (k := 1) hS rfl rfl rfl (Src.pt (hS.get 2 rfl) (by first | exact Nat.le_of_ble_eq_true rfl | omega | (simp only [Array.size_map]; omega))) (by first | assumption | omega | (dsimp only; omega)) (by first | rfl | simp)) ?_ | refine RL.e (Ef.app (k := 1) hS rfl rfl rfl (Src.pt (hS.get 3 rfl) (by first | exact Nat.le_of_ble_eq_true rfl | omega | (simp only [Array.size_map]; omega))) (by first | assumption | omega | (dsimp only; omega)) (by first | rfl | simp)) ?_ | refine RL.e (Ef.app (k := 1) hS rfl rfl rfl (Src.pt (hS.get 4 rfl) (by first | exact Nat.le_of_ble_eq_true rfl | omega | (simp only [Array.size_map]; omega))) (by first | assumption | omega | (dsimp only; omega)) (by first | rfl | simp)) ?_ | refine RL.e (Ef.app (k := 1) hS rfl rfl rfl (Src.pt (hS.get 5 rfl) (by first | exact Nat.le_of_ble_eq_true rfl | omega | (simp only [Array.size_map]; omega))) (by first | assumption | omega | (dsimp only; omega)) (by first | rfl | simp)) ?_ | refine RL.e (Ef.app (k := 1) hS rfl rfl rfl (Src.own hS 0 rfl) (by first | assumption | omega | (dsimp only; omega)) (by first | rfl | simp)) ?_ | refine RL.e (Ef.app (k := 1) hS rfl rfl rfl (Src.own hS 1 rfl) (by first | assumption | omega | (dsimp only; omega)) (by first | rfl | simp)) ?_ | refine RL.e (Ef.app (k := 1) hS rfl rfl rfl (Src.own hS 2 rfl) (by first | assumption | omega | (dsimp only; omega)) (by first | rfl | simp)) ?_ | refine RL.e (Ef.app (k := 1) hS rfl rfl rfl (Src.own hS 3 rfl) (by first | assumption | omega | (dsimp only; omega)) (by first | rfl | simp)) ?_ | refine RL.e (Ef.app (k := 1) hS rfl rfl rfl (Src.own hS 4 rfl) (by first | assumption | omega | (dsimp only; omega)) (by first | rfl | simp)) ?_ | refine RL.e (Ef.app (k := 1) hS rfl rfl rfl (Src.own hS 5 rfl) (by first | assumption | omega | (dsimp only; omega)) (by first | rfl | simp)) ?_
        intro s32 w hS
        simp only [List.set_cons_succ, List.drop_zero] at hS
        first | (obtain ⟨sp32, cp32, rfl⟩ := hS.ownForm 1 rfl)
        refine RL.q (Qt.as rfl) ?_
        refine RL.nil ?_
        refine RE.sqN ?_
        refine RC.region rfl ?_
        refine RL.q (Qt.as rfl) ?_
        refine RL.nil ?_
        refine RE.sqN ?_
        refine RC.region rfl ?_
        refine RL.q (Qt.mv rfl) ?_
        refine RL.q (Qt.mv rfl) ?_
        refine RL.q (Qt.nil rfl) ?_
        refine RL.q (Qt.fld rfl) ?_
        refine RL.q (Qt.ld rfl (by first | exact hS.at 0 rfl | exact hS.at 1 rfl | exact hS.at 2 rfl | exact hS.at 3 rfl | exact hS.at 4 rfl | exact hS.at 5 rfl) (by first  | rfl)) ?_
        refine RL.q (Qt.mv rfl) ?_
        refine RL.q (Qt.ixS rfl rfl (by first | assumption | omega | (dsimp only; omega)) (by first | assumption | omega | (dsimp only; omega))) ?_
        refine RL.q (Qt.ldA rfl (by first | exact hS.at 0 rfl | exact hS.at 1 rfl | exact hS.at 2 rfl | exact hS.at 3 rfl | exact hS.at 4 rfl | exact hS.at 5 rfl) (by first | exact hrow | exact hxr | rfl) (by first | exact Nat.le_of_ble_eq_true rfl | omega | (simp only []; omega))) ?_
        refine RL.e (Ef.bsl1 hS rfl) ?_
        rintro _ w ⟨b41, rfl, hS⟩
        try simp (disch := omega) only [cells_agg'] at hS
        first | refine RL.e (Ef.app (k := 2) hS rfl rfl rfl (Src.pt (hS.get 0 rfl) (by first | exact Nat.le_of_ble_eq_true rfl | omega | (simp only [Array.size_map]; omega))) (by first | assumption | omega | (dsimp only; omega)) (by first | rfl | simp)) ?_ | refine RL.e (Ef.app (k := 2) hS rfl rfl rfl (Src.pt (hS.get 1 rfl) (by first | exact Nat.le_of_ble_eq_true rfl | omega | (simp only [Array.size_map]; omega))) (by first | assumption | omega | (dsimp only; omega)) (by first | rfl | simp)) ?_ | refine RL.e (Ef.app (k := 2) hS rfl rfl rfl (Src.pt (hS.get 2 rfl) (by first | exact Nat.le_of_ble_eq_true rfl | omega | (simp only [Array.size_map]; omega))) (by first | assumption | omega | (dsimp only; omega)) (by first | rfl | simp)) ?_ | refine RL.e (Ef.app (k := 2) hS rfl rfl rfl (Src.pt (hS.get 3 rfl) (by first | exact Nat.le_of_ble_eq_true rfl | omega | (simp only [Array.size_map]; omega))) (by first | assumption | omega | (dsimp only; omega)) (by first | rfl | simp)) ?_ | refine RL.e (Ef.app (k := 2) hS rfl rfl rfl (Src.pt (hS.get 4 rfl) (by first | exact Nat.le_of_ble_eq_true rfl | omega | (simp only [Array.size_map]; omega))) (by first | assumption | omega | (dsimp only; omega)) (by first | rfl | simp)) ?_ | refine RL.e (Ef.app (k := 2) hS rfl rfl rfl (Src.pt (hS.get 5 rfl) (by first | exact Nat.le_of_ble_eq_true rfl | omega | (simp only [Array.size_map]; omega))) (by first | assumption | omega | (dsimp only; omega)) (by first | rfl | simp)) ?_ | refine RL.e (Ef.app (k := 2) hS rfl rfl rfl (Src.pt (hS.get 6 rfl) (by first | exact Nat.le_of_ble_eq_true rfl | omega | (simp only [Array.size_map]; omega))) (by first | assumption | omega | (dsimp only; omega)) (by first | rfl | simp)) ?_ | refine RL.e (Ef.app (k := 2) hS rfl rfl rfl (Src.own hS 0 rfl) (by first | assumption | omega | (dsimp only; omega)) (by first | rfl | simp)) ?_ | refine RL.e (Ef.app (k := 2) hS rfl rfl rfl (Src.own hS 1 rfl) (by first | assumption | omega | (dsimp only; omega)) (by first | rfl | simp)) ?_ | refine RL.e (Ef.app (k := 2) hS rfl rfl rfl (Src.own hS 2 rfl) (by first | assumption | omega | (dsimp only; omega)) (by first | rfl | simp)) ?_ | refine RL.e (Ef.app (k := 2) hS rfl rfl rfl (Src.own hS 3 rfl) (by first | assumption | omega | (dsimp only; omega)) (by first | rfl | simp)) ?_ | refine RL.e (Ef.app (k := 2) hS rfl rfl rfl (Src.own hS 4 rfl) (by first | assumption | omega | (dsimp only; omega)) (by first | rfl | simp)) ?_ | refine RL.e (Ef.app (k := 2) hS rfl rfl rfl (Src.own hS 5 rfl) (by first | assumption | omega | (dsimp only; omega)) (by first | rfl | simp)) ?_ | refine RL.e (Ef.app (k := 2) hS rfl rfl rfl (Src.own hS 6 rfl) (by first | assumption | omega | (dsimp only; omega)) (by first | rfl | simp)) ?_
        intro s42 w hS
        simp only [List.set_cons_succ, List.drop_zero] at hS
        first | (obtain ⟨sp42, cp42, rfl⟩ := hS.ownForm 2 rfl)
        refine RL.q (Qt.as rfl) ?_
        refine RL.nil ?_
        refine RE.bkN ?_
        refine RE.sqN ?_
        refine RC.region rfl ?_
        refine RL.q (Qt.mv rfl) ?_
        refine RL.q ((by first | exact Qt.addI rfl rfl (by dsimp only [inK]; omega) | exact Qt.add rfl rfl)) ?_
        refine RL.q (Qt.as rfl) ?_
        refine RL.nil ?_
        -- stops: next
        rw [show pput x (l[k] :: l.drop (k + 1)) = x :: l[k] :: l.drop (k + 1) from if_pos h2] at hm
        have hS := (hS.pick [2, 3, 4, 5, 6] (by decide) rfl).ownMk (cap := cap) (n := l.length) (sz := 3) (cs := l.flatMap PItem.cells) 3 rfl hc1 hc2 hc3 hc4
        apply RE.lpN (((k + 1, m ++ [x] ++ [l[k]]), (.slice sp42 (m.length + 1 + 1) cp42, true)))
        case hI =>
          refine ⟨rfl, hlt, by simp [hml], by simpa using hm, ?_⟩
          dsimp only
          rw [len_snoc, len_snoc, flat_snoc, flat_snoc]
          exact hS
        case hs => (repeat (first | exact Sub.nil | refine Sub.cons rfl ?_))
        case hm =>
          show l.length - (k + 1) < l.length - k
          omega
      · refine RC.skip ?_
        refine RE.sqN ?_
        refine RC.region rfl ?_
        refine RL.q (Qt.mv rfl) ?_
        refine RL.q (Qt.mv rfl) ?_
        refine RL.q (Qt.nil rfl) ?_
        refine RL.q (Qt.fld rfl) ?_
        refine RL.q (Qt.ld rfl (by first | exact hS.at 0 rfl | exact hS.at 1 rfl | exact hS.at 2 rfl | exact hS.at 3 rfl | exact hS.at 4 rfl) (by first  | rfl)) ?_
        refine RL.q (Qt.mv rfl) ?_
        refine RL.q (Qt.ixS rfl rfl (by first | assumption | omega | (dsimp only; omega)) (by first | assumption | omega | (dsimp only; omega))) ?_
        refine RL.q (Qt.ldA rfl (by first | exact hS.at 0 rfl | exact hS.at 1 rfl | exact hS.at 2 rfl | exact hS.at 3 rfl | exact hS.at 4 rfl) (by first | exact hrow | exact hxr | rfl) (by first | exact Nat.le_of_ble_eq_true rfl | omega | (simp only []; omega))) ?_
        refine RL.e (Ef.bsl1 hS rfl) ?_
        rintro _ w ⟨b41, rfl, hS⟩
        try simp (disch := omega) only [cells_agg'] at hS
        first | refine RL.e (Ef.app (k := 1) hS rfl rfl rfl (Src.pt (hS.get 0 rfl) (by first | exact Nat.le_of_ble_eq_true rfl | omega | (simp only [Array.size_map]; omega))) (by first | assumption | omega | (dsimp only; omega)) (by first | rfl | simp)) ?_ | refine RL.e (Ef.app (k := 1) hS rfl rfl rfl (Src.pt (hS.get 1 rfl) (by first | exact Nat.le_of_ble_eq_true rfl | omega | (simp only [Array.size_map]; omega))) (by first | assumption | omega | (dsimp only; omega)) (by first | rfl | simp)) ?_ | refine RL.e (Ef.app (k := 1) hS rfl rfl rfl (Src.pt (hS.get 2 rfl) (by first | exact Nat.le_of_ble_eq_true rfl | omega | (simp only [Array.size_map]; omega))) (by first | assumption | omega | (dsimp only; omega)) (by first | rfl | simp)) ?_ | refine RL.e (Ef.app (k := 1) hS rfl rfl rfl (Src.pt (hS.get 3 rfl) (by first | exact Nat.le_of_ble_eq_true rfl | omega | (simp only [Array.size_map]; omega))) (by first | assumption | omega | (dsimp only; omega)) (by first | rfl | simp)) ?_ | refine RL.e (Ef.app (k := 1) hS rfl rfl rfl (Src.pt (hS.get 4 rfl) (by first | exact Nat.le_of_ble_eq_true rfl | omega | (simp only [Array.size_map]; omega))) (by first | assumption | omega | (dsimp only; omega)) (by first | rfl | simp)) ?_ | refine RL.e (Ef.app (k := 1) hS rfl rfl rfl (Src.pt (hS.get 5 rfl) (by first | exact Nat.le_of_ble_eq_true rfl | omega | (simp only [Array.size_map]; omega))) (by first | assumption | omega | (dsimp only; omega)) (by first | rfl | simp)) ?_ | refine RL.e (Ef.app (k := 1) hS rfl rfl rfl (Src.own hS 0 rfl) (by first | assumption | omega | (dsimp only; omega)) (by first | rfl | simp)) ?_ | refine RL.e (Ef.app (k := 1) hS rfl rfl rfl (Src.own hS 1 rfl) (by first | assumption | omega | (dsimp only; omega)) (by first | rfl | simp)) ?_ | refine RL.e (Ef.app (k := 1) hS rfl rfl rfl (Src.own hS 2 rfl) (by first | assumption | omega | (dsimp only; omega)) (by first | rfl | simp)) ?_ | refine RL.e (Ef.app (k := 1) hS rfl rfl rfl (Src.own hS 3 rfl) (by first | assumption | omega | (dsimp only; omega)) (by first | rfl | simp)) ?_ | refine RL.e (Ef.app (k := 1) hS rfl rfl rfl (Src.own hS 4 rfl) (by first | assumption | omega | (dsimp only; omega)) (by first | rfl | simp)) ?_ | refine RL.e (Ef.app (k := 1) hS rfl rfl rfl (Src.own hS 5 rfl) (by first | assumption | omega | (dsimp only; omega)) (by first | rfl | simp)) ?_
        intro s42 w hS
        simp only [List.set_cons_succ, List.drop_zero] at hS
        first | (obtain ⟨sp42, cp42, rfl⟩ := hS.ownForm 1 rfl)
        refine RL.q (Qt.as rfl) ?_
        refine RL.nil ?_
        refine RE.bkN ?_
        refine RE.sqN ?_
        refine RC.region rfl ?_
        refine RL.q (Qt.mv rfl) ?_
        refine RL.q ((by first | exact Qt.addI rfl rfl (by dsimp only [inK]; omega) | exact Qt.add rfl rfl)) ?_
        refine RL.q (Qt.as rfl) ?_
        refine RL.nil ?_
        -- stops: next
        have h2 : ¬ PItem.lt x l[k] := by simpa using h2
        rw [show pput x (l[k] :: l.drop (k + 1)) = l[k] :: pput x (l.drop (k + 1)) from if_neg h2] at hm
        have hS := (hS.pick [1, 2, 3, 4, 5] (by decide) rfl).ownMk (cap := cap) (n := l.length) (sz := 3) (cs := l.flatMap PItem.cells) 3 rfl hc1 hc2 hc3 hc4
        apply RE.lpN (((k + 1, m ++ [l[k]]), (.slice sp42 (m.length + 1) cp42, false)))
        case hI =>
          refine ⟨rfl, hlt, by simp [hml], by simpa using hm, ?_⟩
          dsimp only
          rw [len_snoc, flat_snoc]
          exact hS
        case hs => (repeat (first | exact Sub.nil | refine Sub.cons rfl ?_))
        case hm =>
          show l.length - (k + 1) < l.length - k
          omega
  · skip
    have hge : k = l.length := by
      have : ¬ k < l.length := by simpa using h
      omega
    have hdn : l.drop k = [] := List.drop_of_length_le (by omega)
    rw [hdn] at hm
    obtain ⟨spo, cpo, rfl⟩ := hS.ownForm 0 rfl
    have hxr : x.cells.toArray.extract 0 (0 + 3) = x.cells.toArray := rfl
    cases pl with
    | true =>
      simp only [if_true, List.append_nil] at hm hml
      subst hm
      refine RC.exit ?_
      refine RE.sqX ?_
      refine RE.lpX ?_
      refine RE.bkX ?_
      refine RE.sqN ?_
      refine RC.seq ?_
      refine RC.seq ?_
      refine RC.region rfl ?_
      refine RL.q (Qt.mv rfl) ?_
      refine RL.q (Qt.not rfl) ?_
      refine RL.nil ?_
      refine RE.sqN ?_
      -- stops: cond
      refine RC.condF rfl (rfl) ?_
      refine RC.skip ?_
      refine RE.sqN ?_
      refine RC.region rfl ?_
      refine RL.q (Qt.mv rfl) ?_
      refine RL.q (Qt.mv rfl) ?_
      refine RL.q (Qt.nil rfl) ?_
      refine RL.q (Qt.fld rfl) ?_
      first | refine RL.e0 (Ef.st hS 0 rfl rfl rfl (by rfl) (by rfl) (by first | exact Nat.le_of_ble_eq_true rfl | omega | (simp only [Array.size_map]; omega))) ?_ | refine RL.e0 (Ef.st hS 1 rfl rfl rfl (by rfl) (by rfl) (by first | exact Nat.le_of_ble_eq_true rfl | omega | (simp only [Array.size_map]; omega))) ?_ | refine RL.e0 (Ef.st hS 2 rfl rfl rfl (by rfl) (by rfl) (by first | exact Nat.le_of_ble_eq_true rfl | omega | (simp only [Array.size_map]; omega))) ?_ | refine RL.e0 (Ef.st hS 3 rfl rfl rfl (by rfl) (by rfl) (by first | exact Nat.le_of_ble_eq_true rfl | omega | (simp only [Array.size_map]; omega))) ?_ | refine RL.e0 (Ef.st hS 4 rfl rfl rfl (by rfl) (by rfl) (by first | exact Nat.le_of_ble_eq_true rfl | omega | (simp only [Array.size_map]; omega))) ?_
      intro _ w hS
      simp (disch := omega) only [List.set_cons_zero, List.set_cons_succ, cells_slice', Nat.zero_add, wr, List.setIfInBounds_toArray] at hS
      refine RL.nil ?_
      -- stops: end normal
      have hpl := (pput_perm x l).length_eq
      simp only [List.length_cons] at hpl
      exact RE.endB rfl ⟨rfl, rfl⟩ (rhO_shut (by omega) (hS.pick [2, 0, 4] (by decide) rfl))
    | false =>
      simp only [Bool.false_eq_true, if_false, pput] at hm hml
      refine RC.exit ?_
      refine RE.sqX ?_
      refine RE.lpX ?_
      refine RE.bkX ?_
      refine RE.sqN ?_
      refine RC.seq ?_
      refine RC.seq ?_
      refine RC.region rfl ?_
      refine RL.q (Qt.mv rfl) ?_
      refine RL.q (Qt.not rfl) ?_
      refine RL.nil ?_
      refine RE.sqN ?_
      -- stops: cond
      refine RC.condT rfl (rfl) ?_
      refine RC.region rfl ?_
      refine RL.q (Qt.mv rfl) ?_
      refine RL.q (Qt.ldA rfl (by first | exact hS.at 0 rfl | exact hS.at 1 rfl | exact hS.at 2 rfl | exact hS.at 3 rfl | exact hS.at 4 rfl) (by first  | rfl) (by first | exact Nat.le_of_ble_eq_true rfl | omega | (simp only [Array.size_map]; omega))) ?_
      refine RL.e (Ef.bsl1 hS rfl) ?_
      rintro _ w ⟨b47, rfl, hS⟩
      try simp (disch := omega) only [cells_agg', Nat.zero_add] at hS
      first | refine RL.e (Ef.app (k := 0) hS rfl rfl rfl (Src.pt (hS.get 0 rfl) (by first | exact Nat.le_of_ble_eq_true rfl | omega | (simp only [Array.size_map]; omega))) (by first | assumption | omega | (dsimp only; omega)) (by first | rfl | simp)) ?_ | refine RL.e (Ef.app (k := 0) hS rfl rfl rfl (Src.pt (hS.get 1 rfl) (by first | exact Nat.le_of_ble_eq_true rfl | omega | (simp only [Array.size_map]; omega))) (by first | assumption | omega | (dsimp only; omega)) (by first | rfl | simp)) ?_ | refine RL.e (Ef.app (k := 0) hS rfl rfl rfl (Src.pt (hS.get 2 rfl) (by first | exact Nat.le_of_ble_eq_true rfl | omega | (simp only [Array.size_map]; omega))) (by first | assumption | omega | (dsimp only; omega)) (by first | rfl | simp)) ?_ | refine RL.e (Ef.app (k := 0) hS rfl rfl rfl (Src.pt (hS.get 3 rfl) (by first | exact Nat.le_of_ble_eq_true rfl | omega | (simp only [Array.size_map]; omega))) (by first | assumption | omega | (dsimp only; omega)) (by first | rfl | simp)) ?_ | refine RL.e (Ef.app (k := 0) hS rfl rfl rfl (Src.pt (hS.get 4 rfl) (by first | exact Nat.le_of_ble_eq_true rfl | omega | (simp only [Array.size_map]; omega))) (by first | assumption | omega | (dsimp only; omega)) (by first | rfl | simp)) ?_ | refine RL.e (Ef.app (k := 0) hS rfl rfl rfl (Src.pt (hS.get 5 rfl) (by first | exact Nat.le_of_ble_eq_true rfl | omega | (simp only [Array.size_map]; omega))) (by first | assumption | omega | (dsimp only; omega)) (by first | rfl | simp)) ?_ | refine RL.e (Ef.app (k := 0) hS rfl rfl rfl (Src.own hS 0 rfl) (by first | assumption | omega | (dsimp only; omega)) (by first | rfl | simp)) ?_ | refine RL.e (Ef.app (k := 0) hS rfl rfl rfl (Src.own hS 1 rfl) (by first | assumption | omega | (dsimp only; omega)) (by first | rfl | simp)) ?_ | refine RL.e (Ef.app (k := 0) hS rfl rfl rfl (Src.own hS 2 rfl) (by first | assumption | omega | (dsimp only; omega)) (by first | rfl | simp)) ?_ | refine RL.e (Ef.app (k := 0) hS rfl rfl rfl (Src.own hS 3 rfl) (by first | assumption | omega | (dsimp only; omega)) (by first | rfl | simp)) ?_ | refine RL.e (Ef.app (k := 0) hS rfl rfl rfl (Src.own hS 4 rfl) (by first | assumption | omega | (dsimp only; omega)) (by first | rfl | simp)) ?_ | refine RL.e (Ef.app (k := 0) hS rfl rfl rfl (Src.own hS 5 rfl) (by first | assumption | omega | (dsimp only; omega)) (by first | rfl | simp)) ?_ | refine RL.e (Ef.app (k := 1) hS rfl rfl rfl (Src.pt (hS.get 0 rfl) (by first | exact Nat.le_of_ble_eq_true rfl | omega | (simp only [Array.size_map]; omega))) (by first | assumption | omega | (dsimp only; omega)) (by first | rfl | simp)) ?_ | refine RL.e (Ef.app (k := 1) hS rfl rfl rfl (Src.pt (hS.get 1 rfl) (by first | exact Nat.le_of_ble_eq_true rfl | omega | (simp only [Array.size_map]; omega))) (by first | assumption | omega | (dsimp only; omega)) (by first | rfl | simp)) ?_ | refine RL.e (Ef.app (k := 1) hS rfl rfl rfl (Src.pt (hS.get 2 rfl) (by first | exact Nat.le_of_ble_eq_true rfl | omega | (simp only [Array.size_map]; omega))) (by first | assumption | omega | (dsimp only; omega)) (by first | rfl | simp)) ?_ | refine RL.e (Ef.app (k := 1) hS rfl rfl rfl (Src.pt (hS.get 3 rfl) (by first | exact Nat.le_of_ble_eq_true rfl | omega | (simp only [Array.size_map]; omega))) (by first | assumption | omega | (dsimp only; omega)) (by first | rfl | simp)) ?_ | refine RL.e (Ef.app (k := 1) hS rfl rfl rfl (Src.pt (hS.get 4 rfl) (by first | exact Nat.le_of_ble_eq_true rfl | omega | (simp only [Array.size_map]; omega))) (by first | assumption | omega | (dsimp only; omega)) (by first | rfl | simp)) ?_ | refine RL.e (Ef.app (k := 1) hS rfl rfl rfl (Src.pt (hS.get 5 rfl) (by first | exact Nat.le_of_ble_eq_true rfl | omega | (simp only [Array.size_map]; omega))) (by first | assumption | omega | (dsimp only; omega)) (by first | rfl | simp)) ?_ | refine RL.e (Ef.app (k := 1) hS rfl rfl rfl (Src.own hS 0 rfl) (by first | assumption | omega | (dsimp only; omega)) (by first | rfl | simp)) ?_ | refine RL.e (Ef.app (k := 1) hS rfl rfl rfl (Src.own hS 1 rfl) (by first | assumption | omega | (dsimp only; omega)) (by first | rfl | simp)) ?_ | refine RL.e (Ef.app (k := 1) hS rfl rfl rfl (Src.own hS 2 rfl) (by first | assumption | omega | (dsimp only; omega)) (by first | rfl | simp)) ?_ | refine RL.e (Ef.app (k := 1) hS rfl rfl rfl (Src.own hS 3 rfl) (by first | assumption | omega | (dsimp only; omega)) (by first | rfl | simp)) ?_ | refine RL.e (Ef.app (k := 1) hS rfl rfl rfl (Src.own hS 4 rfl) (by first | assumption | omega | (dsimp only; omega)) (by first | rfl | simp)) ?_ | refine RL.e (Ef.app (k := 1) hS rfl rfl rfl (Src.own hS 5 rfl) (by first | assumption | omega | (dsimp only; omega)) (by first | rfl | simp)) ?_ | refine RL.e (Ef.app (k := 2) hS rfl rfl rfl (Src.pt (hS.get 0 rfl) (by first | exact Nat.le_of_ble_eq_true rfl | omega | (simp only [Array.size_map]; omega))) (by first | assumption | omega | (dsimp only; omega)) (by first | rfl | simp)) ?_ | refine RL.e (Ef.app (k := 2) hS rfl rfl rfl (Src.pt (hS.get 1 rfl) (by first | exact Nat.le_of_ble_eq_true rfl | omega | (simp only [Array.size_map]; omega))) (by first | assumption | omega | (dsimp only; omega)) (by first | rfl | simp)) ?_ | refine RL.e (Ef.app (k := 2) hS rfl rfl rfl (Src.pt (hS.get 2 rfl) (by first | exact Nat.le_of_ble_eq_true rfl | omega | (simp only [Array.size_map]; omega))) (by first | assumption | omega | (dsimp only; omega)) (by first | rfl | simp)) ?_ | refine RL.e (Ef.app (k := 2) hS rfl rfl rfl (Src.pt (hS.get 3 rfl) (by first | exact Nat.le_of_ble_eq_true rfl | omega | (simp only [Array.size_map]; omega))) (by first | assumption | omega | (dsimp only; omega)) (by first | rfl | simp)) ?_ | refine RL.e (Ef.app (k := 2) hS rfl rfl rfl (Src.pt (hS.get 4 rfl) (by first | exact Nat.le_of_ble_eq_true rfl | omega | (simp only [Array.size_map]; omega))) (by first | assumption | omega | (dsimp only; omega)) (by first | rfl | simp)) ?_ | refine RL.e (Ef.app (k := 2) hS rfl rfl rfl (Src.pt (hS.get 5 rfl) (by first | exact Nat.le_of_ble_eq_true rfl | omega | (simp only [Array.size_map]; omega))) (by first | assumption | omega | (dsimp only; omega)) (by first | rfl | simp)) ?_ | refine RL.e (Ef.app (k := 2) hS rfl rfl rfl (Src.own hS 0 rfl) (by first | assumption | omega | (dsimp only; omega)) (by first | rfl | simp)) ?_ | refine RL.e (Ef.app (k := 2) hS rfl rfl rfl (Src.own hS 1 rfl) (by first | assumption | omega | (dsimp only; omega)) (by first | rfl | simp)) ?_ | refine RL.e (Ef.app (k := 2) hS rfl rfl rfl (Src.own hS 2 rfl) (by first | assumption | omega | (dsimp only; omega)) (by first | rfl | simp)) ?_ | refine RL.e (Ef.app (k := 2) hS rfl rfl rfl (Src.own hS 3 rfl) (by first | assumption | omega | (dsimp only; omega)) (by first | rfl | simp)) ?_ | refine RL.e (Ef.app (k := 2) hS rfl rfl rfl (Src.own hS 4 rfl) (by first | assumption | omega | (dsimp only; omega)) (by first | rfl | simp)) ?_ | refine RL.e (Ef.app (k := 2) hS rfl rfl rfl (Src.own hS 5 rfl) (by first | assumption | omega | (dsimp only; omega)) (by first | rfl | simp)) ?_ | refine RL.e (Ef.app (k := 3) hS rfl rfl rfl (Src.pt (hS.get 0 rfl) (by first | exact Nat.le_of_ble_eq_true rfl | omega | (simp only [Array.size_map]; omega))) (by first | assumption | omega | (dsimp only; omega)) (by first | rfl | simp)) ?_ | refine RL.e (Ef.app (k := 3) hS rfl rfl rfl (Src.pt (hS.get 1 rfl) (by first | exact Nat.le_of_ble_eq_true rfl | omega | (simp only [Array.size_map]; omega))) (by first | assumption | omega | (dsimp only; omega)) (by first | rfl | simp)) ?_ | refine RL.e (Ef.app (k := 3) hS rfl rfl rfl (Src.pt (hS.get 2 rfl) (by first | exact Nat.le_of_ble_eq_true rfl | omega | (simp only [Array.size_map]; omega))) (by first | assumption | omega | (dsimp only; omega)) (by first | rfl | simp)) ?_ | refine RL.e (Ef.app (k := 3) hS rfl rfl rfl (Src.pt (hS.get 3 rfl) (by first | exact Nat.le_of_ble_eq_true rfl | omega | (simp only [Array.size_map]; omega))) (by first | assumption | omega | (dsimp only; omega)) (by first | rfl | simp)) ?_ | refine RL.e (Ef.app (k := 3) hS rfl rfl rfl (Src.pt (hS.get 4 rfl) (by first | exact Nat.le_of_ble_eq_true rfl | omega | (simp only [Array.size_map]; omega))) (by first | assumption | omega | (dsimp only; omega)) (by first | rfl | simp)) ?_ | refine RL.e (Ef.app (k := 3) hS rfl rfl rfl (Src.pt (hS.get 5 rfl) (by first | exact Nat.le_of_ble_eq_true rfl | omega | (simp only [Array.size_map]; omega))) (by first | assumption | omega | (dsimp only; omega)) (by first | rfl | simp)) ?_ | refine RL.e (Ef.app (k := 3) hS rfl rfl rfl (Src.own hS 0 rfl) (by first | assumption | omega | (dsimp only; omega)) (by first | rfl | simp)) ?_ | refine RL.e (Ef.app (k := 3) hS rfl rfl rfl (Src.own hS 1 rfl) (by first | assumption | omega | (dsimp only; omega)) (by first | rfl | simp)) ?_ | refine RL.e (Ef.app (k := 3) hS rfl rfl rfl (Src.own hS 2 rfl) (by first | assumption | omega | (dsimp only; omega)) (by first | rfl | simp)) ?_ | refine RL.e (Ef.app (k := 3) hS rfl rfl rfl (Src.own hS 3 rfl) (by first | assumption | omega | (dsimp only; omega)) (by first | rfl | simp)) ?_ | refine RL.e (Ef.app (k := 3) hS rfl rfl rfl (Src.own hS 4 rfl) (by first | assumption | omega | (dsimp only; omega)) (by first | rfl | simp)) ?_ | refine RL.e (Ef.app (k := 3) hS rfl rfl rfl (Src.own hS 5 rfl) (by first | assumption | omega | (dsimp only; omega)) (by first | rfl | simp)) ?_ | refine RL.e (Ef.app (k := 4) hS rfl rfl rfl (Src.pt (hS.get 0 rfl) (by first | exact Nat.le_of_ble_eq_true rfl | omega | (simp only [Array.size_map]; omega))) (by first | assumption | omega | (dsimp only; omega)) (by first | rfl | simp)) ?_ | refine RL.e (Ef.app (k := 4) hS rfl rfl rfl (Src.pt (hS.get 1 rfl) (by first | exact Nat.le_of_ble_eq_true rfl | omega | (simp only [Array.size_map]; omega))) (by first | assumption | omega | (dsimp only; omega)) (by first | rfl | simp)) ?_ | refine RL.e (Ef.app (k := 4) hS rfl rfl rfl (Src.pt (hS.get 2 rfl) (by first | exact Nat.le_of_ble_eq_true rfl | omega | (simp only [Array.size_map]; omega))) (by first | assumption | omega | (dsimp only; omega)) (by first | rfl | simp)) ?_ | refine RL.e (Ef.app (k := 4) hS rfl rfl rfl (Src.pt (hS.get 3 rfl) (by first | exact Nat.le_of_ble_eq_true rfl | omega | (simp only [Array.size_map]; omega))) (by first | assumption | omega | (dsimp only; omega)) (by first | rfl | simp)) ?_ | refine RL.e (Ef.app (k := 4) hS rfl rfl rfl (Src.pt (hS.get 4 rfl) (by first | exact Nat.le_of_ble_eq_true rfl | omega | (simp only [Array.size_map]; omega))) (by first | assumption | omega | (dsimp only; omega)) (by first | rfl | simp)) ?_ | refine RL.e (Ef.app (k := 4) hS rfl rfl rfl (Src.pt (hS.get 5 rfl) (by first | exact Nat.le_of_ble_eq_true rfl | omega | (simp only [Array.size_map]; omega))) (by first | assumption | omega | (dsimp only; omega)) (by first | rfl | simp)) ?_ | refine RL.e (Ef.app (k := 4) hS rfl rfl rfl (Src.own hS 0 rfl) (by first | assumption | omega | (dsimp only; omega)) (by first | rfl | simp)) ?_ | refine RL.e (Ef.app (k := 4) hS rfl rfl rfl (Src.own hS 1 rfl) (by first | assumption | omega | (dsimp only; omega)) (by first | rfl | simp)) ?_ | refine RL.e (Ef.app (k := 4) hS rfl rfl rfl (Src.own hS 2 rfl) (by first | assumption | omega | (dsimp only; omega)) (by first | rfl | simp)) ?_ | refine RL.e (Ef.app (k := 4) hS rfl rfl rfl (Src.own hS 3 rfl) (by first | assumption | omega | (dsimp only; omega)) (by first | rfl | simp)) ?_ | refine RL.e (Ef.app (k := 4) hS rfl rfl rfl (Src.own hS 4 rfl) (by first | assumption | omega | (dsimp only; omega)) (by first | rfl | simp)) ?_ | refine RL.e (Ef.app (k := 4) hS rfl rfl rfl (Src.own hS 5 rfl) (by first | assumption | omega | (dsimp only; omega)) (by first | rfl | simp)) ?_ | refine RL.e (Ef.app (k := 5) hS rfl rfl rfl (Src.pt (hS.get 0 rfl) (by first | exact Nat.le_of_ble_eq_true rfl | omega | (simp only [Array.size_map]; omega))) (by first | assumption | omega | (dsimp only; omega)) (by first | rfl | simp)) ?_ | refine RL.e (Ef.app (k := 5) hS rfl rfl rfl (Src.pt (hS.get 1 rfl) (by first | exact Nat.le_of_ble_eq_true rfl | omega | (simp only [Array.size_map]; omega))) (by first | assumption | omega | (dsimp only; omega)) (by first | rfl | simp)) ?_ | refine RL.e (Ef.app (k := 5) hS rfl rfl rfl (Src.pt (hS.get 2 rfl) (by first | exact Nat.le_of_ble_eq_true rfl | omega | (simp only [Array.size_map]; omega))) (by first | assumption | omega | (dsimp only; omega)) (by first | rfl | simp)) ?_ | refine RL.e (Ef.app (k := 5) hS rfl rfl rfl (Src.pt (hS.get 3 rfl) (by first | exact Nat.le_of_ble_eq_true rfl | omega | (simp only [Array.size_map]; omega))) (by first | assumption | omega | (dsimp only; omega)) (by first | rfl | simp)) ?_ | refine RL.e (Ef.app (k := 5) hS rfl rfl rfl (Src.pt (hS.get 4 rfl) (by first | exact Nat.le_of_ble_eq_true rfl | omega | (simp only [Array.size_map]; omega))) (by first | assumption | omega | (dsimp only; omega)) (by first | rfl | simp)) ?_ | refine RL.e (Ef.app (k := 5) hS rfl rfl rfl (Src.pt (hS.get 5 rfl) (by first | exact Nat.le_of_ble_eq_true rfl | omega | (simp only [Array.size_map]; omega))) (by first | assumption | omega | (dsimp only; omega)) (by first | rfl | simp)) ?_ | refine RL.e (Ef.app (k := 5) hS rfl rfl rfl (Src.own hS 0 rfl) (by first | assumption | omega | (dsimp only; omega)) (by first | rfl | simp)) ?_ | refine RL.e (Ef.app (k := 5) hS rfl rfl rfl (Src.own hS 1 rfl) (by first | assumption | omega | (dsimp only; omega)) (by first | rfl | simp)) ?_ | refine RL.e (Ef.app (k := 5) hS rfl rfl rfl (Src.own hS 2 rfl) (by first | assumption | omega | (dsimp only; omega)) (by first | rfl | simp)) ?_ | refine RL.e (Ef.app (k := 5) hS rfl rfl rfl (Src.own hS 3 rfl) (by first | assumption | omega | (dsimp only; omega)) (by first | rfl | simp)) ?_ | refine RL.e (Ef.app (k := 5) hS rfl rfl rfl (Src.own hS 4 rfl) (by first | assumption | omega | (dsimp only; omega)) (by first | rfl | simp)) ?_ | refine RL.e (Ef.app (k := 5) hS rfl rfl rfl (Src.own hS 5 rfl) (by first | assumption | omega | (dsimp only; omega)) (by first | rfl | simp)) ?_
      intro s48 w hS
      simp only [List.set_cons_zero, List.set_cons_succ, List.drop_zero] at hS
      first | (obtain ⟨sp48, cp48, rfl⟩ := hS.ownForm 0 rfl) | (obtain ⟨sp48, cp48, rfl⟩ := hS.ownForm 1 rfl) | (obtain ⟨sp48, cp48, rfl⟩ := hS.ownForm 2 rfl) | (obtain ⟨sp48, cp48, rfl⟩ := hS.ownForm 3 rfl) | (obtain ⟨sp48, cp48, rfl⟩ := hS.ownForm 4 rfl) | (obtain ⟨sp48, cp48, rfl⟩ := hS.ownForm 5 rfl)
      refine RL.q (Qt.as rfl) ?_
      refine RL.nil ?_
      refine RE.sqN ?_
      refine RC.region rfl ?_
      refine RL.q (Qt.mv rfl) ?_
      refine RL.q (Qt.mv rfl) ?_
      refine RL.q (Qt.nil rfl) ?_
      refine RL.q (Qt.fld rfl) ?_
      first | refine RL.e0 (Ef.st hS 0 rfl rfl rfl (by rfl) (by rfl) (by first | exact Nat.le_of_ble_eq_true rfl | omega | (simp only [Array.size_map]; omega))) ?_ | refine RL.e0 (Ef.st hS 1 rfl rfl rfl (by rfl) (by rfl) (by first | exact Nat.le_of_ble_eq_true rfl | omega | (simp only [Array.size_map]; omega))) ?_ | refine RL.e0 (Ef.st hS 2 rfl rfl rfl (by rfl) (by rfl) (by first | exact Nat.le_of_ble_eq_true rfl | omega | (simp only [Array.size_map]; omega))) ?_ | refine RL.e0 (Ef.st hS 3 rfl rfl rfl (by rfl) (by rfl) (by first | exact Nat.le_of_ble_eq_true rfl | omega | (simp only [Array.size_map]; omega))) ?_ | refine RL.e0 (Ef.st hS 4 rfl rfl rfl (by rfl) (by rfl) (by first | exact Nat.le_of_ble_eq_true rfl | omega | (simp only [Array.size_map]; omega))) ?_ | refine RL.e0 (Ef.st hS 5 rfl rfl rfl (by rfl) (by rfl) (by first | exact Nat.le_of_ble_eq_true rfl | omega | (simp only [Array.size_map]; omega))) ?_
      intro _ w hS
      simp (disch := omega) only [List.set_cons_zero, List.set_cons_succ, cells_slice', Nat.zero_add, wr, List.setIfInBounds_toArray] at hS
      refine RL.nil ?_
      -- stops: end normal
      have hpl := (pput_perm x l).length_eq
      simp only [List.length_cons] at hpl
      refine RE.endB rfl ⟨rfl, rfl⟩ (rhO_shut (s := .slice sp48 (pput x l).length cp48) (by omega) ?_)
      rw [← hm, len_snoc, flat_snoc]
      exact hS.pick [3, 1, 5] (by decide) rfl

set_option maxHeartbeats 1000000 in
theorem rhInsert (p : Value) (n : Nat) (l : List PItem) (x : PItem) (hlen : l.length < 1000000) : Ct Try.prog 90 #[p, .int .i64 x.id, .int .u64 x.dl, .int .u64 x.sq] [rhO p n l] (fun v ps => v = .int .i64 (pErr l n x.id false) ∧ ps = [rhO p n (pIns l n x)]) := by
  refine Ct.enter Try.func90 rfl (Nat.le_of_ble_eq_true rfl) ?_
  intro oo w R hS
  change RC _ _ _ _ _ _ [(0, _), (1, _), (2, _), (3, _)] _
  refine RC.seq ?_
  refine RC.region rfl ?_
  refine RL.q (Qt.as rfl) ?_
  refine RL.nil ?_
  refine RE.sqN ?_
  refine RC.seq ?_
  refine RC.region rfl ?_
  refine RL.q (Qt.mv rfl) ?_
  refine RL.q (Qt.mv rfl) ?_
  -- stops: op call
  refine RL.e (Ef.call hS (rhMay p n l x.id false) rfl rfl Try.call129 [0] [1] (by decide) rfl rfl) ?_
  rintro v12 w ⟨ps, ⟨rfl, rfl⟩, hS⟩
  refine RL.q (Qt.as rfl) ?_
  refine RL.nil ?_
  refine RE.sqN ?_
  refine RC.seq ?_
  refine RC.seq ?_
  refine RC.region rfl ?_
  refine RL.q (Qt.mv rfl) ?_
  refine RL.q (Qt.eql rfl rfl) ?_
  refine RL.nil ?_
  refine RE.sqN ?_
  -- stops: cond
  refine RC.cond rfl (fun h => ?_) (fun h => ?_)
  · skip
    have h : pErr l n x.id false = 0 := by simpa using h
    refine RC.region rfl ?_
    refine RL.q (Qt.mv rfl) ?_
    refine RL.q (Qt.mv rfl) ?_
    refine RL.q (Qt.mv rfl) ?_
    refine RL.q (Qt.mv rfl) ?_
    refine RL.q (Qt.bldV [.tmp 16, .tmp 17, .tmp 18] rfl rfl (by kernel_rfl)) ?_
    -- stops: op call
    refine RL.e (Ef.call hS (rhPut p n l x hlen) rfl rfl Try.call130 [0] [1] (by decide) rfl rfl) ?_
    rintro v20 w ⟨ps, ⟨rfl, rfl⟩, hS⟩
    refine RL.nil ?_
    refine RE.sqN ?_
    refine RC.seq ?_
    refine RC.region rfl ?_
    refine RL.q (Qt.mv rfl) ?_
    refine RL.q (Qt.as rfl) ?_
    refine RL.nil ?_
    refine RE.sqN ?_
    refine RC.ret ?_
    -- stops: end ret
    exact RE.retB rfl ⟨rfl, by rw [show pIns l n x = pput x l from if_pos h]⟩ hS
  · refine RC.skip ?_
    refine RE.sqN ?_
    refine RC.seq ?_
    refine RC.region rfl ?_
    refine RL.q (Qt.mv rfl) ?_
    refine RL.q (Qt.as rfl) ?_
    refine RL.nil ?_
    refine RE.sqN ?_
    refine RC.ret ?_
    -- stops: end ret
    have h : ¬ pErr l n x.id false = 0 := by simpa using h
    exact RE.retB rfl ⟨rfl, by rw [show pIns l n x = l from if_neg h]⟩ hS

theorem ix_in {l : List PItem} {id : Int} (h : id ∈ pIds l) : 0 ≤ ixOf (l.map PItem.id) id ∧ ixOf (l.map PItem.id) id < l.length := by
  have := ixOf_range (l.map PItem.id) id
  rw [List.length_map] at this
  exact ⟨ixOf_mem.2 h, this.2⟩

set_option maxHeartbeats 1000000 in
theorem rhChange (p : Value) (n : Nat) (l : List PItem) (x : PItem) (hlen : l.length < 1000000) (hnd : (pIds l).Nodup) : Ct Try.prog 91 #[p, .int .i64 x.id, .int .u64 x.dl, .int .u64 x.sq] [rhO p n l] (fun v ps => v = .int .i64 (pErr l n x.id true) ∧ ps = [rhO p n (pChg l n x)]) := by
  refine Ct.enter Try.func91 rfl (Nat.le_of_ble_eq_true rfl) ?_
  intro oo w R hS
  change RC _ _ _ _ _ _ [(0, _), (1, _), (2, _), (3, _)] _
  refine RC.seq ?_
  refine RC.region rfl ?_
  refine RL.q (Qt.as rfl) ?_
  refine RL.nil ?_
  refine RE.sqN ?_
  refine RC.seq ?_
  refine RC.region rfl ?_
  refine RL.q (Qt.mv rfl) ?_
  refine RL.q (Qt.mv rfl) ?_
  -- stops: op call
  refine RL.e (Ef.call hS (rhMay p n l x.id true) rfl rfl Try.call129 [0] [1] (by decide) rfl rfl) ?_
  rintro v12 w ⟨ps, ⟨rfl, rfl⟩, hS⟩
  refine RL.q (Qt.as rfl) ?_
  refine RL.nil ?_
  refine RE.sqN ?_
  refine RC.seq ?_
  refine RC.seq ?_
  refine RC.region rfl ?_
  refine RL.q (Qt.mv rfl) ?_
  refine RL.q (Qt.eql rfl rfl) ?_
  refine RL.nil ?_
  refine RE.sqN ?_
  -- stops: cond
  refine RC.cond rfl (fun h => ?_) (fun h => ?_)
  · skip
    have h : pErr l n x.id true = 0 := by simpa using h
    obtain ⟨h0, hx⟩ := pErr_is1 h
    have hix := ix_in hx
    have he : (l.eraseIdx (ixOf (l.map PItem.id) x.id).toNat) = pout l x.id := pout_erase hnd hx
    have hol := pout_len hnd hx
    refine RC.seq ?_
    refine RC.region rfl ?_
    refine RL.q (Qt.mv rfl) ?_
    refine RL.q (Qt.mv rfl) ?_
    refine RL.q (Qt.mv rfl) ?_
    -- stops: op call
    refine RL.e (Ef.call hS (rhAt p n l x.id) rfl rfl Try.call128 [0] [1] (by decide) rfl rfl) ?_
    rintro v18 w ⟨ps, ⟨rfl, rfl⟩, hS⟩
    -- stops: op call
    refine RL.e (Ef.call hS (rhOut p n l _ hix.1 hix.2) rfl rfl Try.call131 [0] [1] (by decide) rfl rfl) ?_
    rintro v19 w ⟨ps, ⟨rfl, rfl⟩, hS⟩
    rw [he] at hS
    refine RL.nil ?_
    refine RE.sqN ?_
    refine RC.region rfl ?_
    refine RL.q (Qt.mv rfl) ?_
    refine RL.q (Qt.mv rfl) ?_
    refine RL.q (Qt.mv rfl) ?_
    refine RL.q (Qt.mv rfl) ?_
    refine RL.q (Qt.bldV [.tmp 21, .tmp 22, .tmp 23] rfl rfl (by kernel_rfl)) ?_
    -- stops: op call
    refine RL.e (Ef.call hS (rhPut p n (pout l x.id) x (by omega)) rfl rfl Try.call130 [0] [1] (by decide) rfl rfl) ?_
    rintro v25 w ⟨ps, ⟨rfl, rfl⟩, hS⟩
    refine RL.nil ?_
    refine RE.sqN ?_
    refine RC.seq ?_
    refine RC.region rfl ?_
    refine RL.q (Qt.mv rfl) ?_
    refine RL.q (Qt.as rfl) ?_
    refine RL.nil ?_
    refine RE.sqN ?_
    refine RC.ret ?_
    -- stops: end ret
    exact RE.retB rfl ⟨rfl, by rw [show pChg l n x = pput x (pout l x.id) from if_pos h]⟩ hS
  · refine RC.skip ?_
    refine RE.sqN ?_
    refine RC.seq ?_
    refine RC.region rfl ?_
    refine RL.q (Qt.mv rfl) ?_
    refine RL.q (Qt.as rfl) ?_
    refine RL.nil ?_
    refine RE.sqN ?_
    refine RC.ret ?_
    -- stops: end ret
    have h : ¬ pErr l n x.id true = 0 := by simpa using h
    exact RE.retB rfl ⟨rfl, by rw [show pChg l n x = l from if_neg h]⟩ hS

set_option maxHeartbeats 1000000 in
theorem rhDelete (p : Value) (n : Nat) (l : List PItem) (id : Int) (hnd : (pIds l).Nodup) : Ct Try.prog 92 #[p, .int .i64 id] [rhO p n l] (fun v ps => v = .int .i64 (pErr l n id true) ∧ ps = [rhO p n (pDel l n id)]) := by
  refine Ct.enter Try.func92 rfl (Nat.le_of_ble_eq_true rfl) ?_
  intro oo w R hS
  change RC _ _ _ _ _ _ [(0, _), (1, _)] _
  refine RC.seq ?_
  refine RC.region rfl ?_
  refine RL.q (Qt.as rfl) ?_
  refine RL.nil ?_
  refine RE.sqN ?_
  refine RC.seq ?_
  refine RC.region rfl ?_
  refine RL.q (Qt.mv rfl) ?_
  refine RL.q (Qt.mv rfl) ?_
  -- stops: op call
  refine RL.e (Ef.call hS (rhMay p n l id true) rfl rfl Try.call129 [0] [1] (by decide) rfl rfl) ?_
  rintro v8 w ⟨ps, ⟨rfl, rfl⟩, hS⟩
  refine RL.q (Qt.as rfl) ?_
  refine RL.nil ?_
  refine RE.sqN ?_
  refine RC.seq ?_
  refine RC.seq ?_
  refine RC.region rfl ?_
  refine RL.q (Qt.mv rfl) ?_
  refine RL.q (Qt.eql rfl rfl) ?_
  refine RL.nil ?_
  refine RE.sqN ?_
  -- stops: cond
  refine RC.cond rfl (fun h => ?_) (fun h => ?_)
  · skip
    have h : pErr l n id true = 0 := by simpa using h
    obtain ⟨h0, hx⟩ := pErr_is1 h
    have hix := ix_in hx
    have he : (l.eraseIdx (ixOf (l.map PItem.id) id).toNat) = pout l id := pout_erase hnd hx
    refine RC.region rfl ?_
    refine RL.q (Qt.mv rfl) ?_
    refine RL.q (Qt.mv rfl) ?_
    refine RL.q (Qt.mv rfl) ?_
    -- stops: op call
    refine RL.e (Ef.call hS (rhAt p n l id) rfl rfl Try.call128 [0] [1] (by decide) rfl rfl) ?_
    rintro v14 w ⟨ps, ⟨rfl, rfl⟩, hS⟩
    -- stops: op call
    refine RL.e (Ef.call hS (rhOut p n l _ hix.1 hix.2) rfl rfl Try.call131 [0] [1] (by decide) rfl rfl) ?_
    rintro v15 w ⟨ps, ⟨rfl, rfl⟩, hS⟩
    rw [he] at hS
    refine RL.nil ?_
    refine RE.sqN ?_
    refine RC.seq ?_
    refine RC.region rfl ?_
    refine RL.q (Qt.mv rfl) ?_
    refine RL.q (Qt.as rfl) ?_
    refine RL.nil ?_
    refine RE.sqN ?_
    refine RC.ret ?_
    -- stops: end ret
    exact RE.retB rfl ⟨rfl, by rw [show pDel l n id = pout l id from if_pos h]⟩ hS
  · refine RC.skip ?_
    refine RE.sqN ?_
    refine RC.seq ?_
    refine RC.region rfl ?_
    refine RL.q (Qt.mv rfl) ?_
    refine RL.q (Qt.as rfl) ?_
    refine RL.nil ?_
    refine RE.sqN ?_
    refine RC.ret ?_
    -- stops: end ret
    have h : ¬ pErr l n id true = 0 := by simpa using h
    exact RE.retB rfl ⟨rfl, by rw [show pDel l n id = l from if_neg h]⟩ hS

set_option maxHeartbeats 1000000 in
theorem rhMin (p : Value) (n : Nat) (l : List PItem) : Ct Try.prog 85 #[p] [rhO p n l] (fun v ps => v = .tuple #[.int .i64 (pMinId l), .bool (pMinOk l)] ∧ ps = [rhO p n l]) := by
  refine Ct.enter Try.func85 rfl (Nat.le_of_ble_eq_true rfl) ?_
  intro oo w R hS
  change RC _ _ _ _ _ _ [(0, _)] _
  obtain ⟨b, sp, cap, rfl, hl, hS⟩ := rhO_open hS
  refine RC.seq ?_
  refine RC.region rfl ?_
  refine RL.q (Qt.as rfl) ?_
  refine RL.q (Qt.as rfl) ?_
  refine RL.nil ?_
  refine RE.sqN ?_
  refine RC.seq ?_
  refine RC.seq ?_
  refine RC.region rfl ?_
  refine RL.q (Qt.mv rfl) ?_
  refine RL.q (Qt.eqlN rfl rfl) ?_
  refine RL.q (Qt.mv rfl) ?_
  refine RLG.start 6 false rfl ?_
  refine RLG.q rfl rfl rfl (fun _ => Qt.mv rfl) ?_
  refine RLG.q rfl rfl rfl (fun _ => Qt.nil rfl) ?_
  refine RLG.q rfl rfl rfl (fun _ => Qt.fld rfl) ?_
  refine RLG.q rfl rfl rfl (fun hg => by (try simp only [Option.isNone_some] at hg); exact Qt.ld rfl (by first | exact hS.at 0 rfl | exact hS.at 1 rfl | exact hS.at 2 rfl) (by first  | rfl)) ?_
  refine RLG.q rfl rfl rfl (fun _ => Qt.lenS rfl) ?_
  refine RLG.q rfl rfl rfl (fun hg => by (try simp only [Option.isNone_some] at hg); exact Qt.eql rfl rfl) ?_
  refine RLG.or rfl rfl ?_
  refine RL.nil ?_
  refine RE.sqN ?_
  -- stops: cond
  refine RC.cond rfl (fun h => ?_) (fun h => ?_)
  · refine RC.seq ?_
    refine RC.region rfl ?_
    refine RL.q (Qt.as rfl) ?_
    refine RL.q (Qt.as rfl) ?_
    refine RL.nil ?_
    refine RE.sqN ?_
    refine RC.ret ?_
    refine RE.sqR ?_
    -- stops: end ret
    have h : l.length = 0 := by
      have : (l.length : Int) = 0 := by simpa using h
      omega
    exact RE.retB rfl ⟨by rw [List.length_eq_zero_iff.1 h]; rfl, rfl⟩ (rhO_shut hl hS)
  · skip
    have h : 0 < l.length := by
      have : ¬ (l.length : Int) = 0 := by simpa using h
      omega
    have hS0 := hS
    obtain ⟨bs, cap', c, hv, hc1, hc2, hc3, hc4, hS⟩ := hS.ownPos 1 rfl (by omega)
    cases hv
    refine RC.skip ?_
    refine RE.sqN ?_
    refine RC.seq ?_
    refine RC.region rfl ?_
    refine RL.q (Qt.mv rfl) ?_
    refine RL.q (Qt.nil rfl) ?_
    refine RL.q (Qt.fld rfl) ?_
    refine RL.q (Qt.ld rfl (by first | exact hS.at 0 rfl | exact hS.at 1 rfl | exact hS.at 2 rfl) (by first | exact row_cell (f := PItem.cells) (fun _ => rfl) hc4 rfl h (j := 0) (by decide) rfl (by omega) | rfl)) ?_
    refine RL.q (Qt.ixS rfl rfl (by first | assumption | omega | (dsimp only; omega)) (by first | assumption | omega | (dsimp only; omega))) ?_
    refine RL.q (Qt.fld rfl) ?_
    refine RL.q (Qt.ld rfl (by first | exact hS.at 0 rfl | exact hS.at 1 rfl | exact hS.at 2 rfl) (by first | exact row_cell (f := PItem.cells) (fun _ => rfl) hc4 rfl h (j := 0) (by decide) rfl (by omega) | rfl)) ?_
    refine RL.q (Qt.as rfl) ?_
    refine RL.q (Qt.as rfl) ?_
    refine RL.nil ?_
    refine RE.sqN ?_
    refine RC.ret ?_
    -- stops: end ret
    refine RE.retB rfl ⟨?_, rfl⟩ (rhO_shut hl hS0)
    cases l with
    | nil => simp at h
    | cons x l => rfl

set_option maxHeartbeats 1000000 in
theorem rhTake (p : Value) (n : Nat) (l : List PItem) : Ct Try.prog 93 #[p] [rhO p n l] (fun v ps => v = .tuple #[.int .i64 (pMinId l), .bool (pMinOk l)] ∧ ps = [rhO p n l.tail]) := by
  refine Ct.enter Try.func93 rfl (Nat.le_of_ble_eq_true rfl) ?_
  intro oo w R hS
  change RC _ _ _ _ _ _ [(0, _)] _
  refine RC.seq ?_
  refine RC.region rfl ?_
  refine RL.q (Qt.as rfl) ?_
  refine RL.q (Qt.as rfl) ?_
  refine RL.nil ?_
  refine RE.sqN ?_
  refine RC.seq ?_
  refine RC.region rfl ?_
  refine RL.q (Qt.mv rfl) ?_
  -- stops: op call
  refine RL.e (Ef.call hS (rhMin p n l) rfl rfl Try.call85 [0] [1] (by decide) rfl rfl) ?_
  rintro v8 w ⟨ps, ⟨rfl, rfl⟩, hS⟩
  refine RL.q (Qt.mv rfl) ?_
  refine RL.q (Qt.ext rfl rfl) ?_
  refine RL.q (Qt.ext rfl rfl) ?_
  refine RL.q (Qt.as rfl) ?_
  refine RL.q (Qt.as rfl) ?_
  refine RL.nil ?_
  refine RE.sqN ?_
  refine RC.seq ?_
  refine RC.seq ?_
  refine RC.region rfl ?_
  refine RL.q (Qt.mv rfl) ?_
  refine RL.nil ?_
  refine RE.sqN ?_
  -- stops: cond
  refine RC.cond rfl (fun h => ?_) (fun h => ?_)
  · skip
    cases l with
    | nil => cases h
    | cons x l =>
      refine RC.region rfl ?_
      refine RL.q (Qt.mv rfl) ?_
      -- stops: op call
      refine RL.e (Ef.call hS (rhOut p n (x :: l) 0 (by omega) (by simp)) rfl rfl Try.call131 [0] [1] (by decide) rfl rfl) ?_
      rintro v13 w ⟨ps, ⟨rfl, rfl⟩, hS⟩
      refine RL.nil ?_
      refine RE.sqN ?_
      refine RC.seq ?_
      refine RC.region rfl ?_
      refine RL.q (Qt.mv rfl) ?_
      refine RL.q (Qt.mv rfl) ?_
      refine RL.q (Qt.as rfl) ?_
      refine RL.q (Qt.as rfl) ?_
      refine RL.nil ?_
      refine RE.sqN ?_
      refine RC.ret ?_
      -- stops: end ret
      exact RE.retB rfl ⟨rfl, rfl⟩ hS
  · refine RC.skip ?_
    refine RE.sqN ?_
    refine RC.seq ?_
    refine RC.region rfl ?_
    refine RL.q (Qt.mv rfl) ?_
    refine RL.q (Qt.mv rfl) ?_
    refine RL.q (Qt.as rfl) ?_
    refine RL.q (Qt.as rfl) ?_
    refine RL.nil ?_
    refine RE.sqN ?_
    refine RC.ret ?_
    -- stops: end ret
    cases l with
    | nil => exact RE.retB rfl ⟨rfl, rfl⟩ hS
    | cons x l => cases h

set_option maxHeartbeats 1000000 in
theorem rhGet (p : Value) (n : Nat) (l : List PItem) (id : Int) (hnd : (pIds l).Nodup) : Ct Try.prog 86 #[p, .int .i64 id] [rhO p n l] (fun v ps => v = pGet l id ∧ ps = [rhO p n l]) := by
  refine Ct.enter Try.func86 rfl (Nat.le_of_ble_eq_true rfl) ?_
  intro oo w R hS
  change RC _ _ _ _ _ _ [(0, _), (1, _)] _
  refine RC.seq ?_
  refine RC.region rfl ?_
  refine RL.q (Qt.as rfl) ?_
  refine RL.q (Qt.as rfl) ?_
  refine RL.q (Qt.as rfl) ?_
  refine RL.nil ?_
  refine RE.sqN ?_
  refine RC.seq ?_
  refine RC.region rfl ?_
  refine RL.q (Qt.mv rfl) ?_
  refine RL.q (Qt.mv rfl) ?_
  -- stops: op call
  refine RL.e (Ef.call hS (rhAt p n l id) rfl rfl Try.call128 [0] [1] (by decide) rfl rfl) ?_
  rintro v10 w ⟨ps, ⟨rfl, rfl⟩, hS⟩
  refine RL.q (Qt.as rfl) ?_
  refine RL.nil ?_
  refine RE.sqN ?_
  refine RC.seq ?_
  refine RC.seq ?_
  refine RC.region rfl ?_
  refine RL.q (Qt.mv rfl) ?_
  refine RL.q (Qt.lss rfl rfl) ?_
  refine RL.nil ?_
  refine RE.sqN ?_
  -- stops: cond
  refine RC.cond rfl (fun h => ?_) (fun h => ?_)
  · refine RC.seq ?_
    refine RC.region rfl ?_
    refine RL.q (Qt.as rfl) ?_
    refine RL.q (Qt.as rfl) ?_
    refine RL.q (Qt.as rfl) ?_
    refine RL.nil ?_
    refine RE.sqN ?_
    refine RC.ret ?_
    refine RE.sqR ?_
    -- stops: end ret
    have h : id ∉ pIds l := ixOf_neg.1 (of_decide_eq_true h)
    exact RE.retB rfl ⟨by rw [pGet_none h]; rfl, rfl⟩ hS
  · skip
    have h : id ∈ pIds l := ixOf_mem.1 (Int.not_lt.1 (of_decide_eq_false h))
    have hix := ix_in h
    obtain ⟨b, sp, cap, rfl, hl, hS⟩ := rhO_open hS
    have hS0 := hS
    obtain ⟨bs, cap', c, hv, hc1, hc2, hc3, hc4, hS⟩ := hS.ownPos 1 rfl (by omega)
    cases hv
    have hlt : (ixOf (l.map PItem.id) id).toNat < l.length := by omega
    have hid : l[(ixOf (l.map PItem.id) id).toNat].id = id := by
      rcases ixOf_spec (l.map PItem.id) id with ⟨h1, _⟩ | ⟨i, hi, h1, h2, _⟩
      · exact absurd h h1
      · simp only [h1, Int.toNat_natCast]
        simpa using h2
    refine RC.skip ?_
    refine RE.sqN ?_
    refine RC.seq ?_
    refine RC.drawn 19 [0, 1, 2, 3, 4, 5, 6, 7, 8, 9, 10, 11, 12, 13, 14, 15, 16, 17, 18] (Same _) (by kernel_rfl) (by kernel_rfl) Same.drew (fun hh => ?_)
    replace hS := hS.drew
    refine RH.q hh (Calm.sq Calm.body) rfl (by kernel_rfl) (Qt.mv rfl) ?_
    refine RH.q hh (Calm.sq Calm.body) rfl (by kernel_rfl) (Qt.nil rfl) ?_
    refine RH.q hh (Calm.sq Calm.body) rfl (by kernel_rfl) (Qt.fld rfl) ?_
    refine RH.q hh (Calm.sq Calm.body) rfl (by kernel_rfl) (Qt.ld rfl (by first | exact hS.at 0 rfl | exact hS.at 1 rfl | exact hS.at 2 rfl) (by first | exact row_cell (f := PItem.cells) (fun _ => rfl) hc4 rfl hlt (j := 1) (by decide) rfl (by omega) | exact row_cell (f := PItem.cells) (fun _ => rfl) hc4 rfl hlt (j := 2) (by decide) rfl (by omega) | rfl)) ?_
    refine RH.q hh (Calm.sq Calm.body) rfl (by kernel_rfl) (Qt.mv rfl) ?_
    refine RH.q hh (Calm.sq Calm.body) rfl (by kernel_rfl) (Qt.ixS rfl rfl (by first | assumption | omega | (dsimp only; omega)) (by first | assumption | omega | (dsimp only; omega))) ?_
    refine RH.q hh (Calm.sq Calm.body) rfl (by kernel_rfl) (Qt.fld rfl) ?_
    refine RH.q hh (Calm.sq Calm.body) rfl (by kernel_rfl) (Qt.ld rfl (by first | exact hS.at 0 rfl | exact hS.at 1 rfl | exact hS.at 2 rfl) (by first | exact row_cell (f := PItem.cells) (fun _ => rfl) hc4 rfl hlt (j := 1) (by decide) rfl (by omega) | exact row_cell (f := PItem.cells) (fun _ => rfl) hc4 rfl hlt (j := 2) (by decide) rfl (by omega) | rfl)) ?_
    refine RH.q hh (Calm.sq Calm.body) rfl (by kernel_rfl) (Qt.mv rfl) ?_
    refine RH.q hh (Calm.sq Calm.body) rfl (by kernel_rfl) (Qt.nil rfl) ?_
    refine RH.q hh (Calm.sq Calm.body) rfl (by kernel_rfl) (Qt.fld rfl) ?_
    refine RH.q hh (Calm.sq Calm.body) rfl (by kernel_rfl) (Qt.ld rfl (by first | exact hS.at 0 rfl | exact hS.at 1 rfl | exact hS.at 2 rfl) (by first | exact row_cell (f := PItem.cells) (fun _ => rfl) hc4 rfl hlt (j := 1) (by decide) rfl (by omega) | exact row_cell (f := PItem.cells) (fun _ => rfl) hc4 rfl hlt (j := 2) (by decide) rfl (by omega) | rfl)) ?_
    refine RH.q hh (Calm.sq Calm.body) rfl (by kernel_rfl) (Qt.mv rfl) ?_
    refine RH.q hh (Calm.sq Calm.body) rfl (by kernel_rfl) (Qt.ixS rfl rfl (by first | assumption | omega | (dsimp only; omega)) (by first | assumption | omega | (dsimp only; omega))) ?_
    refine RH.q hh (Calm.sq Calm.body) rfl (by kernel_rfl) (Qt.fld rfl) ?_
    refine RH.q hh (Calm.sq Calm.body) rfl (by kernel_rfl) (Qt.ld rfl (by first | exact hS.at 0 rfl | exact hS.at 1 rfl | exact hS.at 2 rfl) (by first | exact row_cell (f := PItem.cells) (fun _ => rfl) hc4 rfl hlt (j := 1) (by decide) rfl (by omega) | exact row_cell (f := PItem.cells) (fun _ => rfl) hc4 rfl hlt (j := 2) (by decide) rfl (by omega) | rfl)) ?_
    refine RH.q hh (Calm.sq Calm.body) rfl (by kernel_rfl) (Qt.as rfl) ?_
    refine RH.q hh (Calm.sq Calm.body) rfl (by kernel_rfl) (Qt.as rfl) ?_
    refine RH.q hh (Calm.sq Calm.body) rfl (by kernel_rfl) (Qt.as rfl) ?_
    refine RH.done hh (by kernel_rfl) ?_
    refine RL.nil ?_
    refine RE.sqN ?_
    refine RC.ret ?_
    -- stops: end ret
    refine RE.retB rfl ⟨?_, rfl⟩ (rhO_shut hl hS0.drew)
    have := pGet_some hnd (List.getElem_mem hlt)
    rw [hid] at this
    rw [this]; rfl

set_option maxHeartbeats 1000000 in
theorem rhNew (n : Int) (h0 : 1 ≤ n) (h1 : n ≤ 1024) : Ct Try.prog 81 #[.int .i64 n] [] (fun v ps => ps = [rhO v n.toNat []]) := by
  refine Ct.enter Try.func81 rfl (Nat.le_of_ble_eq_true rfl) ?_
  intro oo w R hS
  change RC _ _ _ _ _ _ [(0, _)] _
  refine RC.seq ?_
  refine RC.region rfl ?_
  refine RL.q (Qt.as rfl) ?_
  refine RL.nil ?_
  refine RE.sqN ?_
  refine RC.seq ?_
  refine RC.seq ?_
  refine RC.region rfl ?_
  refine RL.q (Qt.mv rfl) ?_
  refine RL.q (Qt.lss rfl rfl) ?_
  refine RL.q (Qt.mv rfl) ?_
  refine RLG.start 5 false rfl ?_
  refine RLG.q rfl rfl rfl (fun _ => Qt.mv rfl) ?_
  refine RLG.q rfl rfl rfl (fun hg => by (try simp only [decide_eq_false_iff_not] at hg); exact Qt.gtr rfl rfl) ?_
  refine RLG.or rfl rfl ?_
  refine RL.nil ?_
  refine RE.sqN ?_
  -- stops: cond
  refine RC.condF rfl (by simp; omega) ?_
  refine RC.skip ?_
  refine RE.sqN ?_
  refine RC.seq ?_
  refine RC.region rfl ?_
  refine RL.q (Qt.mv rfl) ?_
  refine RL.q (Qt.bldV [.tmp 9, .const (Go.Value.slice none 0 0)] rfl rfl (by kernel_rfl)) ?_
  refine RL.e (Ef.box hS rfl) ?_
  rintro _ w ⟨b11, rfl, hS⟩
  try simp (disch := omega) only [cells_agg'] at hS
  refine RL.q (Qt.as rfl) ?_
  refine RL.nil ?_
  refine RE.sqN ?_
  refine RC.ret ?_
  -- stops: end ret
  refine RE.retB rfl (ps := [rhO _ n.toNat []]) rfl ?_
  refine rhO_shut (s := .slice none 0 0) (by simp) ?_
  have := hS.nilOwn (T := 160) (sz := 3)
  simpa [Int.toNat_of_nonneg (show 0 ≤ n by omega)] using this.pick [1, 0, 2] (by decide) rfl
end Go.Proofs

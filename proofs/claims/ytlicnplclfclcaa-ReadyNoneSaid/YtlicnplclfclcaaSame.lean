/- The comparison of two lists of ids. -/
import Derived.Test.YtlicnplclfclcaaOutI
namespace Go.Proofs
open Go Go.Gx
variable {oo : World}

set_option maxHeartbeats 1000000 in
theorem rSame (a b : Value) (x y : List Int) (hlx : x.length ≤ 1000000) : Ct Try.prog 32 #[a, b] [ownI a x, ownI b y] (fun v ps => v = .bool (decide (x = y)) ∧ ps = []) := by
  refine Ct.enter Try.func32 rfl (Nat.le_of_ble_eq_true rfl) ?_
  intro oo w R hS
  change RC _ _ _ _ _ _ [(0, _), (1, _)] _
  obtain ⟨sa, ca, rfl⟩ := hS.ownForm 0 rfl
  obtain ⟨sb, cb, rfl⟩ := hS.ownForm 1 rfl
  refine RC.seq ?_
  refine RC.region rfl ?_
  refine RL.q (Qt.as rfl) ?_
  refine RL.nil ?_
  refine RE.sqN ?_
  refine RC.seq ?_
  refine RC.seq ?_
  refine RC.region rfl ?_
  refine RL.q (Qt.mv rfl) ?_
  refine RL.q (Qt.lenS rfl) ?_
  refine RL.q (Qt.mv rfl) ?_
  refine RL.q (Qt.lenS rfl) ?_
  refine RL.q (Qt.neq rfl rfl) ?_
  refine RL.nil ?_
  refine RE.sqN ?_
  -- stops: cond
  refine RC.cond rfl (fun h => ?_) (fun h => ?_)
  · refine RC.seq ?_
    refine RC.region rfl ?_
    refine RL.q (Qt.as rfl) ?_
    refine RL.nil ?_
    refine RE.sqN ?_
    refine RC.ret ?_
    refine RE.sqR ?_
    -- stops: end ret
    have h : ¬ x.length = y.length := by
      have := of_decide_eq_true h
      omega
    refine RE.retB rfl (ps := []) ⟨?_, rfl⟩ (hS.pick [2] (by decide) rfl)
    simp only [oneOf, Value.bool.injEq, Bool.false_eq, decide_eq_false_iff_not]
    intro e
    exact h (by rw [e])
  · refine RC.skip ?_
    refine RE.sqN ?_
    refine RC.seq ?_
    refine RC.seq ?_
    refine RC.region rfl ?_
    refine RL.q (Qt.as rfl) ?_
    refine RL.nil ?_
    refine RE.sqN ?_
    refine RC.block ?_
    -- stops: loop
    have h : x.length = y.length := by
      have := of_decide_eq_false h
      omega
    refine RC.loop (γ := Nat) (fun k E w' => E = [(5, .int .i64 k), (0, .slice sa x.length ca), (1, .slice sb y.length cb)] ∧ k ≤ x.length ∧ x.take k = y.take k ∧ Sat oo w' [ownI (.slice sa x.length ca) x, ownI (.slice sb y.length cb) y, R]) (fun k => x.length - k) 0 _ (by (repeat (first | exact Sub.nil | refine Sub.cons rfl ?_))) ⟨rfl, by omega, by simp, hS⟩ ?_
    clear hS
    rintro k E w ⟨rfl, hk, ht, hS⟩
    refine RC.seq ?_
    refine RC.seq ?_
    refine RC.region rfl ?_
    refine RL.q (Qt.mv rfl) ?_
    refine RL.q (Qt.mv rfl) ?_
    refine RL.q (Qt.lenS rfl) ?_
    refine RL.q (Qt.lss rfl rfl) ?_
    refine RL.nil ?_
    refine RE.sqN ?_
    -- stops: cond
    refine RC.cond rfl (fun h2 => ?_) (fun h2 => ?_)
    · skip
      have hlt : k < x.length := by simpa using h2
      have hlt2 : k < y.length := by omega
      have hS0 := hS
      obtain ⟨b1, c1, d1, hv, hc1, hc2, hc3, hc4, hS⟩ := hS.ownPos 0 rfl (by omega)
      cases hv
      obtain ⟨b2, c2, d2, hv, hd1, hd2, hd3, hd4, hS⟩ := hS.ownPos 1 rfl (by omega)
      cases hv
      refine RC.skip ?_
      refine RE.sqN ?_
      refine RC.seq ?_
      refine RC.block ?_
      refine RC.seq ?_
      refine RC.drawn 9 [0, 1, 2, 3, 4, 5, 6, 7, 8] (Same _) (by kernel_rfl) (by kernel_rfl) Same.drew (fun hh => ?_)
      replace hS := hS.drew
      refine RH.q hh (Calm.sq (Calm.bk (Calm.sq (Calm.lp (Calm.bk (Calm.sq Calm.body)))))) rfl (by kernel_rfl) (Qt.mv rfl) ?_
      refine RH.q hh (Calm.sq (Calm.bk (Calm.sq (Calm.lp (Calm.bk (Calm.sq Calm.body)))))) rfl (by kernel_rfl) (Qt.mv rfl) ?_
      refine RH.q hh (Calm.sq (Calm.bk (Calm.sq (Calm.lp (Calm.bk (Calm.sq Calm.body)))))) rfl (by kernel_rfl) (Qt.ixS rfl rfl (by first | assumption | omega | (dsimp only; omega)) (by first | assumption | omega | (dsimp only; omega))) ?_
      refine RH.q hh (Calm.sq (Calm.bk (Calm.sq (Calm.lp (Calm.bk (Calm.sq Calm.body)))))) rfl (by kernel_rfl) (Qt.ld rfl (by first | exact hS.at 0 rfl | exact hS.at 1 rfl | exact hS.at 2 rfl) (by first | exact int_cell hc4 rfl hlt | exact int_cell hd4 rfl hlt2 | rfl)) ?_
      refine RH.q hh (Calm.sq (Calm.bk (Calm.sq (Calm.lp (Calm.bk (Calm.sq Calm.body)))))) rfl (by kernel_rfl) (Qt.mv rfl) ?_
      refine RH.q hh (Calm.sq (Calm.bk (Calm.sq (Calm.lp (Calm.bk (Calm.sq Calm.body)))))) rfl (by kernel_rfl) (Qt.mv rfl) ?_
      refine RH.q hh (Calm.sq (Calm.bk (Calm.sq (Calm.lp (Calm.bk (Calm.sq Calm.body)))))) rfl (by kernel_rfl) (Qt.ixS rfl rfl (by first | assumption | omega | (dsimp only; omega)) (by first | assumption | omega | (dsimp only; omega))) ?_
      refine RH.q hh (Calm.sq (Calm.bk (Calm.sq (Calm.lp (Calm.bk (Calm.sq Calm.body)))))) rfl (by kernel_rfl) (Qt.ld rfl (by first | exact hS.at 0 rfl | exact hS.at 1 rfl | exact hS.at 2 rfl) (by first | exact int_cell hc4 rfl hlt | exact int_cell hd4 rfl hlt2 | rfl)) ?_
      refine RH.q hh (Calm.sq (Calm.bk (Calm.sq (Calm.lp (Calm.bk (Calm.sq Calm.body)))))) rfl (by kernel_rfl) (Qt.neq rfl rfl) ?_
      refine RH.done hh (by kernel_rfl) ?_
      refine RL.nil ?_
      refine RE.sqN ?_
      -- stops: cond
      refine RC.cond rfl (fun h3 => ?_) (fun h3 => ?_)
      · refine RC.seq ?_
        refine RC.region rfl ?_
        refine RL.q (Qt.as rfl) ?_
        refine RL.nil ?_
        refine RE.sqN ?_
        refine RC.ret ?_
        refine RE.bkR ?_
        refine RE.sqR ?_
        refine RE.lpR ?_
        refine RE.bkR ?_
        refine RE.sqR ?_
        -- stops: end ret
        have h3 := of_decide_eq_true h3
        refine RE.retB rfl (ps := []) ⟨?_, rfl⟩ (hS.pick [2] (by decide) rfl)
        simp only [oneOf, Value.bool.injEq, Bool.false_eq, decide_eq_false_iff_not]
        intro e
        subst e
        exact h3 rfl
      · refine RC.skip ?_
        refine RE.bkN ?_
        refine RE.sqN ?_
        refine RC.region rfl ?_
        refine RL.q (Qt.mv rfl) ?_
        refine RL.q ((by first | exact Qt.addI rfl rfl (by dsimp only [inK]; omega) | exact Qt.add rfl rfl)) ?_
        refine RL.q (Qt.as rfl) ?_
        refine RL.nil ?_
        -- stops: next
        have h3 := of_decide_eq_false h3
        have h4 : x[k] = y[k] := Classical.not_not.1 h3
        apply RE.lpN (k + 1)
        case hI => exact ⟨rfl, hlt, by rw [List.take_succ_eq_append_getElem hlt, List.take_succ_eq_append_getElem hlt2, ht, h4], hS0.drew⟩
        case hs => (repeat (first | exact Sub.nil | refine Sub.cons rfl ?_))
        case hm =>
          show x.length - (k + 1) < x.length - k
          omega
    · refine RC.exit ?_
      refine RE.sqX ?_
      refine RE.lpX ?_
      refine RE.bkX ?_
      refine RE.sqN ?_
      refine RC.seq ?_
      refine RC.region rfl ?_
      refine RL.q (Qt.as rfl) ?_
      refine RL.nil ?_
      refine RE.sqN ?_
      refine RC.ret ?_
      -- stops: end ret
      have hge : k = x.length := by
        have : ¬ k < x.length := by simpa using h2
        omega
      subst hge
      rw [List.take_length, h, List.take_length] at ht
      refine RE.retB rfl (ps := []) ⟨?_, rfl⟩ (hS.pick [2] (by decide) rfl)
      simp [oneOf, ht]
end Go.Proofs

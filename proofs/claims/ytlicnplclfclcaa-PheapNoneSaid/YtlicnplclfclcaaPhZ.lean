/- The heap of deadlines that is nil, sizes that may not be; the law PheapNone answers true. -/
import Derived.Test.YtlicnplclfclcaaPhW
namespace Go.Proofs
open Go Go.Gx
variable {oo : World}

theorem phMayN (id : Int) (t : Bool) : Ct Try.prog 82 #[.pointer none, .int .i64 id, .bool t] [] (fun v ps => v = .int .i64 1 ∧ ps = []) := by
  refine Ct.enter Try.func82 rfl (Nat.le_of_ble_eq_true rfl) ?_
  intro oo w R hS
  change RC _ _ _ _ _ _ [(0, _), (1, _), (2, _)] _
  refine RC.seq ?_
  refine RC.region rfl ?_
  refine RL.q (Qt.as rfl) ?_
  refine RL.nil ?_
  refine RE.sqN ?_
  refine RC.seq ?_
  refine RC.block ?_
  refine RC.seq ?_
  refine RC.region rfl ?_
  refine RL.q (Qt.mv rfl) ?_
  refine RL.q (Qt.eqlN rfl rfl) ?_
  refine RL.q (Qt.as rfl) ?_
  refine RL.nil ?_
  refine RE.sqN ?_
  -- stops: cond
  refine RC.condT rfl (rfl) ?_
  refine RC.seq ?_
  refine RC.region rfl ?_
  refine RL.q (Qt.as rfl) ?_
  refine RL.nil ?_
  refine RE.sqN ?_
  refine RC.ret ?_
  refine RE.bkR ?_
  refine RE.sqR ?_
  -- stops: end ret
  exact RE.retB rfl ⟨rfl, rfl⟩ hS
theorem phInsertN (id d s : Int) : Ct Try.prog 34 #[.pointer none, .int .i64 id, .int .u64 d, .int .u64 s] [] (fun v ps => v = .int .i64 1 ∧ ps = []) := by
  refine Ct.enter Try.func34 rfl (Nat.le_of_ble_eq_true rfl) ?_
  intro oo w R hS
  change RC _ _ _ _ _ _ [(0, _), (1, _), (2, _), (3, _)] _
  refine RC.seq ?_
  refine RC.region rfl ?_
  refine RL.q (Qt.as rfl) ?_
  refine RL.nil ?_
  refine RE.sqN ?_
  refine RC.seq ?_
  refine RC.seq ?_
  refine RC.region rfl ?_
  refine RL.q (Qt.mv rfl) ?_
  refine RL.q (Qt.mv rfl) ?_
  -- stops: op call
  refine RL.e (Ef.call hS (phMayN id false) rfl rfl Try.call82 [] [0] (by decide) rfl rfl) ?_
  rintro v12 w ⟨ps, ⟨rfl, rfl⟩, hS⟩
  refine RL.q (Qt.as rfl) ?_
  refine RL.nil ?_
  refine RE.sqN ?_
  refine RC.seq ?_
  refine RC.region rfl ?_
  refine RL.q (Qt.mv rfl) ?_
  refine RL.q (Qt.neq rfl rfl) ?_
  refine RL.nil ?_
  refine RE.sqN ?_
  -- stops: cond
  refine RC.condT rfl (rfl) ?_
  refine RC.seq ?_
  refine RC.region rfl ?_
  refine RL.q (Qt.mv rfl) ?_
  refine RL.q (Qt.as rfl) ?_
  refine RL.nil ?_
  refine RE.sqN ?_
  refine RC.ret ?_
  refine RE.sqR ?_
  -- stops: end ret
  exact RE.retB rfl ⟨rfl, rfl⟩ hS
theorem phChangeN (id d s : Int) : Ct Try.prog 36 #[.pointer none, .int .i64 id, .int .u64 d, .int .u64 s] [] (fun v ps => v = .int .i64 1 ∧ ps = []) := by
  refine Ct.enter Try.func36 rfl (Nat.le_of_ble_eq_true rfl) ?_
  intro oo w R hS
  change RC _ _ _ _ _ _ [(0, _), (1, _), (2, _), (3, _)] _
  refine RC.seq ?_
  refine RC.region rfl ?_
  refine RL.q (Qt.as rfl) ?_
  refine RL.nil ?_
  refine RE.sqN ?_
  refine RC.seq ?_
  refine RC.seq ?_
  refine RC.region rfl ?_
  refine RL.q (Qt.mv rfl) ?_
  refine RL.q (Qt.mv rfl) ?_
  -- stops: op call
  refine RL.e (Ef.call hS (phMayN id true) rfl rfl Try.call82 [] [0] (by decide) rfl rfl) ?_
  rintro v12 w ⟨ps, ⟨rfl, rfl⟩, hS⟩
  refine RL.q (Qt.as rfl) ?_
  refine RL.nil ?_
  refine RE.sqN ?_
  refine RC.seq ?_
  refine RC.region rfl ?_
  refine RL.q (Qt.mv rfl) ?_
  refine RL.q (Qt.neq rfl rfl) ?_
  refine RL.nil ?_
  refine RE.sqN ?_
  -- stops: cond
  refine RC.condT rfl (rfl) ?_
  refine RC.seq ?_
  refine RC.region rfl ?_
  refine RL.q (Qt.mv rfl) ?_
  refine RL.q (Qt.as rfl) ?_
  refine RL.nil ?_
  refine RE.sqN ?_
  refine RC.ret ?_
  refine RE.sqR ?_
  -- stops: end ret
  exact RE.retB rfl ⟨rfl, rfl⟩ hS
theorem phDeleteN (id : Int) : Ct Try.prog 31 #[.pointer none, .int .i64 id] [] (fun v ps => v = .int .i64 1 ∧ ps = []) := by
  refine Ct.enter Try.func31 rfl (Nat.le_of_ble_eq_true rfl) ?_
  intro oo w R hS
  change RC _ _ _ _ _ _ [(0, _), (1, _)] _
  refine RC.seq ?_
  refine RC.region rfl ?_
  refine RL.q (Qt.as rfl) ?_
  refine RL.nil ?_
  refine RE.sqN ?_
  refine RC.seq ?_
  refine RC.seq ?_
  refine RC.region rfl ?_
  refine RL.q (Qt.mv rfl) ?_
  refine RL.q (Qt.mv rfl) ?_
  -- stops: op call
  refine RL.e (Ef.call hS (phMayN id true) rfl rfl Try.call82 [] [0] (by decide) rfl rfl) ?_
  rintro v8 w ⟨ps, ⟨rfl, rfl⟩, hS⟩
  refine RL.q (Qt.as rfl) ?_
  refine RL.nil ?_
  refine RE.sqN ?_
  refine RC.seq ?_
  refine RC.region rfl ?_
  refine RL.q (Qt.mv rfl) ?_
  refine RL.q (Qt.neq rfl rfl) ?_
  refine RL.nil ?_
  refine RE.sqN ?_
  -- stops: cond
  refine RC.condT rfl (rfl) ?_
  refine RC.seq ?_
  refine RC.region rfl ?_
  refine RL.q (Qt.mv rfl) ?_
  refine RL.q (Qt.as rfl) ?_
  refine RL.nil ?_
  refine RE.sqN ?_
  refine RC.ret ?_
  refine RE.sqR ?_
  -- stops: end ret
  exact RE.retB rfl ⟨rfl, rfl⟩ hS
theorem phMinN : Ct Try.prog 35 #[.pointer none] [] (fun v ps => v = .tuple #[.int .i64 0, .bool false] ∧ ps = []) := by
  refine Ct.enter Try.func35 rfl (Nat.le_of_ble_eq_true rfl) ?_
  intro oo w R hS
  change RC _ _ _ _ _ _ [(0, _)] _
  refine RC.seq ?_
  refine RC.region rfl ?_
  refine RL.q (Qt.as rfl) ?_
  refine RL.q (Qt.as rfl) ?_
  refine RL.nil ?_
  refine RE.sqN ?_
  refine RC.seq ?_
  refine RC.seq ?_
  refine RC.region rfl ?_
  refine RL.q (Qt.mv rfl) ?_
  refine RL.q (Qt.eqlN rfl rfl) ?_
  refine RL.q (Qt.mv rfl) ?_
  refine RL.s (Skips.guard rfl rfl rfl (rfl)) ?_
  refine RL.s (Skips.guard rfl rfl rfl (rfl)) ?_
  refine RL.s (Skips.guard rfl rfl rfl (rfl)) ?_
  refine RL.s (Skips.guard rfl rfl rfl (rfl)) ?_
  refine RL.s (Skips.guard rfl rfl rfl (rfl)) ?_
  refine RL.q ((by first | exact Qt.pickT rfl (by assumption) rfl | exact Qt.pickF rfl (by assumption) rfl | exact Qt.pickT rfl rfl rfl | exact Qt.pickF rfl rfl rfl)) ?_
  refine RL.nil ?_
  refine RE.sqN ?_
  -- stops: cond
  refine RC.condT rfl (rfl) ?_
  refine RC.seq ?_
  refine RC.region rfl ?_
  refine RL.q (Qt.as rfl) ?_
  refine RL.q (Qt.as rfl) ?_
  refine RL.nil ?_
  refine RE.sqN ?_
  refine RC.ret ?_
  refine RE.sqR ?_
  -- stops: end ret
  exact RE.retB rfl ⟨rfl, rfl⟩ hS
theorem phTakeN : Ct Try.prog 39 #[.pointer none] [] (fun v ps => v = .tuple #[.int .i64 0, .bool false] ∧ ps = []) := by
  refine Ct.enter Try.func39 rfl (Nat.le_of_ble_eq_true rfl) ?_
  intro oo w R hS
  change RC _ _ _ _ _ _ [(0, _)] _
  refine RC.seq ?_
  refine RC.region rfl ?_
  refine RL.q (Qt.as rfl) ?_
  refine RL.q (Qt.as rfl) ?_
  refine RL.nil ?_
  refine RE.sqN ?_
  refine RC.seq ?_
  refine RC.region rfl ?_
  refine RL.q (Qt.mv rfl) ?_
  -- stops: op call
  refine RL.e (Ef.call hS (phMinN) rfl rfl Try.call35 [] [0] (by decide) rfl rfl) ?_
  rintro v6 w ⟨ps, ⟨rfl, rfl⟩, hS⟩
  refine RL.q (Qt.mv rfl) ?_
  refine RL.q (Qt.ext rfl rfl) ?_
  refine RL.q (Qt.ext rfl rfl) ?_
  refine RL.q (Qt.as rfl) ?_
  refine RL.q (Qt.as rfl) ?_
  refine RL.nil ?_
  refine RE.sqN ?_
  refine RC.seq ?_
  refine RC.seq ?_
  refine RC.region rfl ?_
  refine RL.q (Qt.mv rfl) ?_
  refine RL.nil ?_
  refine RE.sqN ?_
  -- stops: cond
  refine RC.condF rfl (rfl) ?_
  refine RC.skip ?_
  refine RE.sqN ?_
  refine RC.seq ?_
  refine RC.region rfl ?_
  refine RL.q (Qt.mv rfl) ?_
  refine RL.q (Qt.mv rfl) ?_
  refine RL.q (Qt.as rfl) ?_
  refine RL.q (Qt.as rfl) ?_
  refine RL.nil ?_
  refine RE.sqN ?_
  refine RC.ret ?_
  -- stops: end ret
  exact RE.retB rfl ⟨rfl, rfl⟩ hS
theorem phGetN (id : Int) : Ct Try.prog 38 #[.pointer none, .int .i64 id] [] (fun v ps => v = .tuple #[.int .u64 0, .int .u64 0, .bool false] ∧ ps = []) := by
  refine Ct.enter Try.func38 rfl (Nat.le_of_ble_eq_true rfl) ?_
  intro oo w R hS
  change RC _ _ _ _ _ _ [(0, _), (1, _)] _
  refine RC.seq ?_
  refine RC.region rfl ?_
  refine RL.q (Qt.as rfl) ?_
  refine RL.q (Qt.as rfl) ?_
  refine RL.q (Qt.as rfl) ?_
  refine RL.nil ?_
  refine RE.sqN ?_
  refine RC.seq ?_
  refine RC.seq ?_
  refine RC.region rfl ?_
  refine RL.q (Qt.mv rfl) ?_
  refine RL.q (Qt.mv rfl) ?_
  -- stops: op call
  refine RL.e (Ef.call hS (phMayN id true) rfl rfl Try.call82 [] [0] (by decide) rfl rfl) ?_
  rintro v9 w ⟨ps, ⟨rfl, rfl⟩, hS⟩
  refine RL.q (Qt.neq rfl rfl) ?_
  refine RL.nil ?_
  refine RE.sqN ?_
  -- stops: cond
  refine RC.condT rfl (rfl) ?_
  refine RC.seq ?_
  refine RC.region rfl ?_
  refine RL.q (Qt.as rfl) ?_
  refine RL.q (Qt.as rfl) ?_
  refine RL.q (Qt.as rfl) ?_
  refine RL.nil ?_
  refine RE.sqN ?_
  refine RC.ret ?_
  refine RE.sqR ?_
  -- stops: end ret
  exact RE.retB rfl ⟨rfl, rfl⟩ hS
theorem phLenN : Ct Try.prog 33 #[.pointer none] [] (fun v ps => v = .int .i64 0 ∧ ps = []) := by
  refine Ct.enter Try.func33 rfl (Nat.le_of_ble_eq_true rfl) ?_
  intro oo w R hS
  change RC _ _ _ _ _ _ [(0, _)] _
  refine RC.seq ?_
  refine RC.region rfl ?_
  refine RL.q (Qt.as rfl) ?_
  refine RL.nil ?_
  refine RE.sqN ?_
  refine RC.seq ?_
  refine RC.seq ?_
  refine RC.region rfl ?_
  refine RL.q (Qt.mv rfl) ?_
  refine RL.q (Qt.eqlN rfl rfl) ?_
  refine RL.nil ?_
  refine RE.sqN ?_
  -- stops: cond
  refine RC.condT rfl (rfl) ?_
  refine RC.seq ?_
  refine RC.region rfl ?_
  refine RL.q (Qt.as rfl) ?_
  refine RL.nil ?_
  refine RE.sqN ?_
  refine RC.ret ?_
  refine RE.sqR ?_
  -- stops: end ret
  exact RE.retB rfl ⟨rfl, rfl⟩ hS
theorem phForkN : Ct Try.prog 40 #[.pointer none] [] (fun v ps => v = .pointer none ∧ ps = []) := by
  refine Ct.enter Try.func40 rfl (Nat.le_of_ble_eq_true rfl) ?_
  intro oo w R hS
  change RC _ _ _ _ _ _ [(0, _)] _
  refine RC.seq ?_
  refine RC.region rfl ?_
  refine RL.q (Qt.as rfl) ?_
  refine RL.nil ?_
  refine RE.sqN ?_
  refine RC.seq ?_
  refine RC.seq ?_
  refine RC.region rfl ?_
  refine RL.q (Qt.mv rfl) ?_
  refine RL.q (Qt.eqlN rfl rfl) ?_
  refine RL.nil ?_
  refine RE.sqN ?_
  -- stops: cond
  refine RC.condT rfl (rfl) ?_
  refine RC.seq ?_
  refine RC.region rfl ?_
  refine RL.q (Qt.as rfl) ?_
  refine RL.nil ?_
  refine RE.sqN ?_
  refine RC.ret ?_
  refine RE.sqR ?_
  -- stops: end ret
  exact RE.retB rfl ⟨rfl, rfl⟩ hS
set_option maxHeartbeats 1000000 in
theorem phListN : Ct Try.prog 30 #[.pointer none] [] (fun v ps => v = .slice none 0 0 ∧ ps = []) := by
  refine Ct.enter Try.func30 rfl (Nat.le_of_ble_eq_true rfl) ?_
  intro oo w R hS
  change RC _ _ _ _ _ _ [(0, _)] _
  refine RC.seq ?_
  refine RC.region rfl ?_
  refine RL.q (Qt.as rfl) ?_
  refine RL.nil ?_
  refine RE.sqN ?_
  refine RC.seq ?_
  refine RC.region rfl ?_
  refine RL.q (Qt.as rfl) ?_
  refine RL.nil ?_
  refine RE.sqN ?_
  refine RC.seq ?_
  refine RC.region rfl ?_
  refine RL.q (Qt.mv rfl) ?_
  -- stops: op call
  refine RL.e (Ef.call hS (phForkN) rfl rfl Try.call40 [] [0] (by decide) rfl rfl) ?_
  rintro v8 w ⟨ps, ⟨rfl, rfl⟩, hS⟩
  refine RL.q (Qt.as rfl) ?_
  refine RL.nil ?_
  refine RE.sqN ?_
  refine RC.seq ?_
  refine RC.seq ?_
  refine RC.region rfl ?_
  refine RL.q (Qt.mv rfl) ?_
  -- stops: op call
  refine RL.e (Ef.call hS (phTakeN) rfl rfl Try.call39 [] [0] (by decide) rfl rfl) ?_
  rintro v11 w ⟨ps, ⟨rfl, rfl⟩, hS⟩
  refine RL.q (Qt.mv rfl) ?_
  refine RL.q (Qt.ext rfl rfl) ?_
  refine RL.q (Qt.ext rfl rfl) ?_
  refine RL.q (Qt.as rfl) ?_
  refine RL.q (Qt.as rfl) ?_
  refine RL.nil ?_
  refine RE.sqN ?_
  refine RC.block ?_
  -- stops: loop
  refine RC.loop (γ := Unit) (fun _ E w' => E = [(6, .bool false), (3, .slice none 0 0)] ∧ Sat oo w' [R]) (fun _ => 0) () _ (by (repeat (first | exact Sub.nil | refine Sub.cons rfl ?_))) ⟨rfl, hS⟩ ?_
  clear hS
  rintro _ E w ⟨rfl, hS⟩
  refine RC.seq ?_
  refine RC.seq ?_
  refine RC.region rfl ?_
  refine RL.q (Qt.mv rfl) ?_
  refine RL.nil ?_
  refine RE.sqN ?_
  -- stops: cond
  refine RC.condF rfl (rfl) ?_
  refine RC.exit ?_
  refine RE.sqX ?_
  refine RE.lpX ?_
  refine RE.bkX ?_
  refine RE.sqN ?_
  refine RC.seq ?_
  refine RC.region rfl ?_
  refine RL.q (Qt.mv rfl) ?_
  refine RL.q (Qt.as rfl) ?_
  refine RL.nil ?_
  refine RE.sqN ?_
  refine RC.ret ?_
  -- stops: end ret
  exact RE.retB rfl ⟨rfl, rfl⟩ hS

set_option maxHeartbeats 4000000 in
theorem phLawNone (x : PDeed) (n : Int) (F0 : Frag) : Ct Try.prog 9 #[x.val, .int .i64 n] [pin F0] (fun v' ps => v' = .bool true ∧ ps = [pin F0]) := by
  refine Ct.enter Try.func9 rfl (Nat.le_of_ble_eq_true rfl) ?_
  intro oo w R hS
  change RC _ _ _ _ _ _ [(0, _), (1, _)] _
  refine RC.seq ?_
  refine RC.region rfl ?_
  refine RL.e (Ef.box hS rfl) ?_
  rintro _ w ⟨b2, rfl, hS⟩
  try simp (disch := omega) only [List.set_cons_zero, List.set_cons_succ, cells_int, cells_bool, cells_ptr, cells_slice, cells_func, cells_agg, cells_map, cells_int', cells_bool', cells_ptr', cells_slice', cells_agg', cells_map', cells_func', Nat.zero_add, wr, List.setIfInBounds_toArray] at hS
  refine RL.q (Qt.as rfl) ?_
  refine RL.nil ?_
  refine RE.sqN ?_
  refine RC.seq ?_
  refine RC.region rfl ?_
  refine RL.q (Qt.as rfl) ?_
  refine RL.nil ?_
  refine RE.sqN ?_
  refine RC.seq ?_
  refine RC.region rfl ?_
  refine RL.q (Qt.mv rfl) ?_
  -- stops: op call
  refine RL.e (Ef.call hS (phMinN) rfl rfl Try.call35 [] [0, 1, 2] (by decide) rfl rfl) ?_
  rintro v15 w ⟨ps, ⟨rfl, rfl⟩, hS⟩
  refine RL.q (Qt.mv rfl) ?_
  refine RL.q (Qt.ext rfl rfl) ?_
  refine RL.q (Qt.ext rfl rfl) ?_
  refine RL.q (Qt.as rfl) ?_
  refine RL.q (Qt.as rfl) ?_
  refine RL.nil ?_
  refine RE.sqN ?_
  refine RC.seq ?_
  refine RC.region rfl ?_
  refine RL.q (Qt.mv rfl) ?_
  -- stops: op call
  refine RL.e (Ef.call hS (phTakeN) rfl rfl Try.call39 [] [0, 1, 2] (by decide) rfl rfl) ?_
  rintro v20 w ⟨ps, ⟨rfl, rfl⟩, hS⟩
  refine RL.q (Qt.mv rfl) ?_
  refine RL.q (Qt.ext rfl rfl) ?_
  refine RL.q (Qt.ext rfl rfl) ?_
  refine RL.q (Qt.as rfl) ?_
  refine RL.q (Qt.as rfl) ?_
  refine RL.nil ?_
  refine RE.sqN ?_
  refine RC.seq ?_
  refine RC.region rfl ?_
  refine RL.q (Qt.mv rfl) ?_
  refine RL.q (Qt.fld rfl) ?_
  refine RL.q (Qt.ld rfl (by first | exact hS.at 0 rfl | exact hS.at 1 rfl | exact hS.at 2 rfl) (by first  | rfl)) ?_
  -- stops: op call
  refine RL.e (Ef.call hS (phGetN x.id) rfl rfl Try.call38 [] [0, 1, 2] (by decide) rfl rfl) ?_
  rintro v27 w ⟨ps, ⟨rfl, rfl⟩, hS⟩
  refine RL.q (Qt.mv rfl) ?_
  refine RL.q (Qt.ext rfl rfl) ?_
  refine RL.q (Qt.ext rfl rfl) ?_
  refine RL.q (Qt.ext rfl rfl) ?_
  refine RL.q (Qt.as rfl) ?_
  refine RL.q (Qt.as rfl) ?_
  refine RL.q (Qt.as rfl) ?_
  refine RL.nil ?_
  refine RE.sqN ?_
  refine RC.seq ?_
  refine RC.region rfl ?_
  -- stops: op call
  refine RL.e (Ef.call hS (phLive) rfl rfl Try.call29 [] [0, 1, 2] (by decide) rfl rfl) ?_
  rintro v31 w ⟨ps, ⟨rfl, p', l', rfl⟩, hS⟩
  refine RL.q (Qt.mv rfl) ?_
  -- stops: guard
  refine RL.q (Qt.mv rfl) ?_ (Runs.guard rfl rfl rfl (rfl))
  refine RL.q (Qt.fld rfl) ?_ (Runs.guard rfl rfl rfl (rfl))
  refine RL.q (Qt.ld rfl (by first | exact hS.at 0 rfl | exact hS.at 1 rfl | exact hS.at 2 rfl | exact hS.at 3 rfl) (by first  | rfl)) ?_ (Runs.guard rfl rfl rfl (rfl))
  refine RL.q (Qt.fld rfl) ?_ (Runs.guard rfl rfl rfl (rfl))
  refine RL.q (Qt.ld rfl (by first | exact hS.at 0 rfl | exact hS.at 1 rfl | exact hS.at 2 rfl | exact hS.at 3 rfl) (by first  | rfl)) ?_ (Runs.guard rfl rfl rfl (rfl))
  refine RL.q (Qt.fld rfl) ?_ (Runs.guard rfl rfl rfl (rfl))
  refine RL.q (Qt.ld rfl (by first | exact hS.at 0 rfl | exact hS.at 1 rfl | exact hS.at 2 rfl | exact hS.at 3 rfl) (by first  | rfl)) ?_ (Runs.guard rfl rfl rfl (rfl))
  -- stops: op call
  refine RL.e (Ef.call hS (phInsertN x.id x.dl x.sq) rfl rfl Try.call34 [] [0, 1, 2, 3] (by decide) rfl rfl) ?_ (Runs.guard rfl rfl rfl (rfl))
  rintro v40 w ⟨ps, ⟨rfl, rfl⟩, hS⟩
  refine RL.q (Qt.eql rfl rfl) ?_ (Runs.guard rfl rfl rfl (rfl))
  refine RL.q ((by first | exact Qt.pickT rfl (by assumption) rfl | exact Qt.pickF rfl (by assumption) rfl | exact Qt.pickT rfl rfl rfl | exact Qt.pickF rfl rfl rfl)) ?_
  refine RL.q (Qt.mv rfl) ?_
  -- stops: guard
  refine RL.q (Qt.mv rfl) ?_ (Runs.guard rfl rfl rfl (rfl))
  refine RL.q (Qt.fld rfl) ?_ (Runs.guard rfl rfl rfl (rfl))
  refine RL.q (Qt.ld rfl (by first | exact hS.at 0 rfl | exact hS.at 1 rfl | exact hS.at 2 rfl | exact hS.at 3 rfl) (by first  | rfl)) ?_ (Runs.guard rfl rfl rfl (rfl))
  refine RL.q (Qt.fld rfl) ?_ (Runs.guard rfl rfl rfl (rfl))
  refine RL.q (Qt.ld rfl (by first | exact hS.at 0 rfl | exact hS.at 1 rfl | exact hS.at 2 rfl | exact hS.at 3 rfl) (by first  | rfl)) ?_ (Runs.guard rfl rfl rfl (rfl))
  refine RL.q (Qt.fld rfl) ?_ (Runs.guard rfl rfl rfl (rfl))
  refine RL.q (Qt.ld rfl (by first | exact hS.at 0 rfl | exact hS.at 1 rfl | exact hS.at 2 rfl | exact hS.at 3 rfl) (by first  | rfl)) ?_ (Runs.guard rfl rfl rfl (rfl))
  -- stops: op call
  refine RL.e (Ef.call hS (phChangeN x.id x.dl x.sq) rfl rfl Try.call36 [] [0, 1, 2, 3] (by decide) rfl rfl) ?_ (Runs.guard rfl rfl rfl (rfl))
  rintro v51 w ⟨ps, ⟨rfl, rfl⟩, hS⟩
  refine RL.q (Qt.eql rfl rfl) ?_ (Runs.guard rfl rfl rfl (rfl))
  refine RL.q ((by first | exact Qt.pickT rfl (by assumption) rfl | exact Qt.pickF rfl (by assumption) rfl | exact Qt.pickT rfl rfl rfl | exact Qt.pickF rfl rfl rfl)) ?_
  refine RL.q (Qt.mv rfl) ?_
  -- stops: guard
  refine RL.q (Qt.mv rfl) ?_ (Runs.guard rfl rfl rfl (rfl))
  refine RL.q (Qt.fld rfl) ?_ (Runs.guard rfl rfl rfl (rfl))
  refine RL.q (Qt.ld rfl (by first | exact hS.at 0 rfl | exact hS.at 1 rfl | exact hS.at 2 rfl | exact hS.at 3 rfl) (by first  | rfl)) ?_ (Runs.guard rfl rfl rfl (rfl))
  -- stops: op call
  refine RL.e (Ef.call hS (phDeleteN x.id) rfl rfl Try.call31 [] [0, 1, 2, 3] (by decide) rfl rfl) ?_ (Runs.guard rfl rfl rfl (rfl))
  rintro v58 w ⟨ps, ⟨rfl, rfl⟩, hS⟩
  refine RL.q (Qt.eql rfl rfl) ?_ (Runs.guard rfl rfl rfl (rfl))
  refine RL.q ((by first | exact Qt.pickT rfl (by assumption) rfl | exact Qt.pickF rfl (by assumption) rfl | exact Qt.pickT rfl rfl rfl | exact Qt.pickF rfl rfl rfl)) ?_
  refine RL.q (Qt.mv rfl) ?_
  refine RLG.start 61 true rfl ?_
  refine RLG.q rfl rfl rfl (fun _ => Qt.mv rfl) ?_
  refine RLG.q rfl rfl rfl (fun hg => by (try simp only [decide_eq_true_eq] at hg); exact Qt.eql rfl rfl) ?_
  refine RLG.and rfl rfl ?_
  refine RL.q (Qt.mv rfl) ?_
  refine RLG.start 65 true rfl ?_
  refine RLG.q rfl rfl rfl (fun _ => Qt.mv rfl) ?_
  refine RLG.q rfl rfl rfl (fun _ => Qt.not rfl) ?_
  refine RLG.and rfl rfl ?_
  refine RL.q (Qt.mv rfl) ?_
  refine RLG.start 69 true rfl ?_
  refine RLG.q rfl rfl rfl (fun _ => Qt.mv rfl) ?_
  refine RLG.q rfl rfl rfl (fun hg => by (try simp only [decide_eq_true_eq, Bool.and_eq_true] at hg); exact Qt.eql rfl rfl) ?_
  refine RLG.and rfl rfl ?_
  refine RL.q (Qt.mv rfl) ?_
  refine RLG.start 73 true rfl ?_
  refine RLG.q rfl rfl rfl (fun _ => Qt.mv rfl) ?_
  refine RLG.q rfl rfl rfl (fun _ => Qt.not rfl) ?_
  refine RLG.and rfl rfl ?_
  refine RL.q (Qt.mv rfl) ?_
  refine RLG.start 77 true rfl ?_
  refine RLG.q rfl rfl rfl (fun _ => Qt.mv rfl) ?_
  refine RLG.q rfl rfl rfl (fun hg => by (try simp only [decide_eq_true_eq, Bool.and_eq_true] at hg); exact Qt.eql rfl rfl) ?_
  refine RLG.and rfl rfl ?_
  refine RL.q (Qt.mv rfl) ?_
  refine RLG.start 81 true rfl ?_
  refine RLG.q rfl rfl rfl (fun _ => Qt.mv rfl) ?_
  refine RLG.q rfl rfl rfl (fun hg => by (try simp only [decide_eq_true_eq, Bool.and_eq_true] at hg); exact Qt.eql rfl rfl) ?_
  refine RLG.and rfl rfl ?_
  refine RL.q (Qt.mv rfl) ?_
  refine RLG.start 85 true rfl ?_
  refine RLG.q rfl rfl rfl (fun _ => Qt.mv rfl) ?_
  refine RLG.q rfl rfl rfl (fun _ => Qt.not rfl) ?_
  refine RLG.and rfl rfl ?_
  refine RL.q (Qt.mv rfl) ?_
  -- stops: guard
  refine RL.q (Qt.mv rfl) ?_ (Runs.guard rfl rfl rfl (rfl))
  -- stops: op call
  refine RL.e (Ef.call hS (phListN) rfl rfl Try.call30 [] [0, 1, 2, 3] (by decide) rfl rfl) ?_ (Runs.guard rfl rfl rfl (rfl))
  rintro v91 w ⟨ps, ⟨rfl, rfl⟩, hS⟩
  refine RL.q (Qt.lenS rfl) ?_ (Runs.guard rfl rfl rfl (rfl))
  refine RL.q (Qt.eql rfl rfl) ?_ (Runs.guard rfl rfl rfl (rfl))
  refine RL.q ((by first | exact Qt.pickT rfl (by assumption) rfl | exact Qt.pickF rfl (by assumption) rfl | exact Qt.pickT rfl rfl rfl | exact Qt.pickF rfl rfl rfl)) ?_
  refine RL.q (Qt.mv rfl) ?_
  -- stops: guard
  refine RL.q (Qt.mv rfl) ?_ (Runs.guard rfl rfl rfl (rfl))
  -- stops: op call
  refine RL.e (Ef.call hS (phLenN) rfl rfl Try.call33 [] [0, 1, 2, 3] (by decide) rfl rfl) ?_ (Runs.guard rfl rfl rfl (rfl))
  rintro v97 w ⟨ps, ⟨rfl, rfl⟩, hS⟩
  refine RL.q (Qt.eql rfl rfl) ?_ (Runs.guard rfl rfl rfl (rfl))
  refine RL.q ((by first | exact Qt.pickT rfl (by assumption) rfl | exact Qt.pickF rfl (by assumption) rfl | exact Qt.pickT rfl rfl rfl | exact Qt.pickF rfl rfl rfl)) ?_
  refine RL.q (Qt.mv rfl) ?_
  -- stops: guard
  refine RL.q (Qt.mv rfl) ?_ (Runs.guard rfl rfl rfl (rfl))
  -- stops: op call
  refine RL.e (Ef.call hS (phForkN) rfl rfl Try.call40 [] [0, 1, 2, 3] (by decide) rfl rfl) ?_ (Runs.guard rfl rfl rfl (rfl))
  rintro v102 w ⟨ps, ⟨rfl, rfl⟩, hS⟩
  refine RL.q (Qt.eqlN rfl rfl) ?_ (Runs.guard rfl rfl rfl (rfl))
  refine RL.q ((by first | exact Qt.pickT rfl (by assumption) rfl | exact Qt.pickF rfl (by assumption) rfl | exact Qt.pickT rfl rfl rfl | exact Qt.pickF rfl rfl rfl)) ?_
  refine RL.q (Qt.mv rfl) ?_
  -- stops: guard
  by_cases h1 : n < 1
  · have hb : decide (n < 1) = true := by simpa using h1
    refine RL.q (Qt.mv rfl) ?_ (Runs.guard rfl rfl rfl (rfl))
    -- stops: op call
    refine RL.e (Ef.call hS (phNewN n (.inl h1)) rfl rfl Try.call43 [] [0, 1, 2, 3] (by decide) rfl rfl) ?_ (Runs.guard rfl rfl rfl (rfl))
    rintro v107 w ⟨ps, ⟨rfl, rfl⟩, hS⟩
    refine RL.q (Qt.eqlN rfl rfl) ?_ (Runs.guard rfl rfl rfl (rfl))
    refine RL.q (Qt.mv rfl) ?_ (Runs.guard rfl rfl rfl (rfl))
    refine RL.q (Qt.lss rfl rfl) ?_ (Runs.guard rfl rfl rfl (rfl))
    refine RL.q (Qt.mv rfl) ?_ (Runs.guard rfl rfl rfl (rfl))
    refine RL.s (Skips.guard rfl rfl rfl (hb)) ?_
    refine RL.s (Skips.guard rfl rfl rfl (hb)) ?_
    refine RL.q ((by first | exact Qt.pickT rfl (by assumption) rfl | exact Qt.pickF rfl (by assumption) rfl | exact Qt.pickT rfl rfl rfl | exact Qt.pickF rfl rfl rfl)) ?_ (Runs.guard rfl rfl rfl (rfl))
    refine RL.q (Qt.eqlB rfl rfl) ?_ (Runs.guard rfl rfl rfl (rfl))
    refine RL.q ((by first | exact Qt.pickT rfl (by assumption) rfl | exact Qt.pickF rfl (by assumption) rfl | exact Qt.pickT rfl rfl rfl | exact Qt.pickF rfl rfl rfl)) ?_
    refine RL.q (Qt.as rfl) ?_
    refine RL.nil ?_
    refine RE.sqN ?_
    refine RC.ret ?_
    -- stops: end ret
    exact RE.retB rfl ⟨by simp [oneOf], rfl⟩ (hS.pick [2, 3] (by decide) rfl)
  · have hb : decide (n < 1) = false := by simpa using h1
    by_cases h2 : n > 1024
    · skip
      refine RL.q (Qt.mv rfl) ?_ (Runs.guard rfl rfl rfl (rfl))
      -- stops: op call
      refine RL.e (Ef.call hS (phNewN n (.inr h2)) rfl rfl Try.call43 [] [0, 1, 2, 3] (by decide) rfl rfl) ?_ (Runs.guard rfl rfl rfl (rfl))
      rintro v107 w ⟨ps, ⟨rfl, rfl⟩, hS⟩
      refine RL.q (Qt.eqlN rfl rfl) ?_ (Runs.guard rfl rfl rfl (rfl))
      refine RL.q (Qt.mv rfl) ?_ (Runs.guard rfl rfl rfl (rfl))
      refine RL.q (Qt.lss rfl rfl) ?_ (Runs.guard rfl rfl rfl (rfl))
      refine RL.q (Qt.mv rfl) ?_ (Runs.guard rfl rfl rfl (rfl))
      refine RL.q (Qt.mv rfl) ?_ (Runs.guard rfl rfl rfl (hb))
      refine RL.q (Qt.gtr rfl rfl) ?_ (Runs.guard rfl rfl rfl (hb))
      refine RL.q ((by first | exact Qt.pickT rfl (by assumption) rfl | exact Qt.pickF rfl (by assumption) rfl | exact Qt.pickT rfl rfl rfl | exact Qt.pickF rfl rfl rfl)) ?_ (Runs.guard rfl rfl rfl (rfl))
      refine RL.q (Qt.eqlB rfl rfl) ?_ (Runs.guard rfl rfl rfl (rfl))
      refine RL.q ((by first | exact Qt.pickT rfl (by assumption) rfl | exact Qt.pickF rfl (by assumption) rfl | exact Qt.pickT rfl rfl rfl | exact Qt.pickF rfl rfl rfl)) ?_
      refine RL.q (Qt.as rfl) ?_
      refine RL.nil ?_
      refine RE.sqN ?_
      refine RC.ret ?_
      -- stops: end ret
      exact RE.retB rfl ⟨by simp [oneOf, h2], rfl⟩ (hS.pick [2, 3] (by decide) rfl)
    · skip
      refine RL.q (Qt.mv rfl) ?_ (Runs.guard rfl rfl rfl (rfl))
      -- stops: op call
      refine RL.e (Ef.call hS (phNew n (by omega) (by omega)) rfl rfl Try.call43 [] [0, 1, 2, 3] (by decide) rfl rfl) ?_ (Runs.guard rfl rfl rfl (rfl))
      rintro v107 w ⟨ps, ⟨⟨b', rfl⟩, rfl⟩, hS⟩
      refine RL.q (Qt.eqlN rfl rfl) ?_ (Runs.guard rfl rfl rfl (rfl))
      refine RL.q (Qt.mv rfl) ?_ (Runs.guard rfl rfl rfl (rfl))
      refine RL.q (Qt.lss rfl rfl) ?_ (Runs.guard rfl rfl rfl (rfl))
      refine RL.q (Qt.mv rfl) ?_ (Runs.guard rfl rfl rfl (rfl))
      refine RL.q (Qt.mv rfl) ?_ (Runs.guard rfl rfl rfl (hb))
      refine RL.q (Qt.gtr rfl rfl) ?_ (Runs.guard rfl rfl rfl (hb))
      refine RL.q ((by first | exact Qt.pickT rfl (by assumption) rfl | exact Qt.pickF rfl (by assumption) rfl | exact Qt.pickT rfl rfl rfl | exact Qt.pickF rfl rfl rfl)) ?_ (Runs.guard rfl rfl rfl (rfl))
      refine RL.q (Qt.eqlB rfl rfl) ?_ (Runs.guard rfl rfl rfl (rfl))
      refine RL.q ((by first | exact Qt.pickT rfl (by assumption) rfl | exact Qt.pickF rfl (by assumption) rfl | exact Qt.pickT rfl rfl rfl | exact Qt.pickF rfl rfl rfl)) ?_
      refine RL.q (Qt.as rfl) ?_
      refine RL.nil ?_
      refine RE.sqN ?_
      refine RC.ret ?_
      -- stops: end ret
      exact RE.retB rfl ⟨by simp [oneOf, h2], rfl⟩ (hS.pick [3, 4] (by decide) rfl)
end Go.Proofs

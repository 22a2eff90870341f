/- The set of layer 10 that is nil, sizes that may not be; the law ReadyNone answers true. -/
import Derived.Test.YtlicnplclfclcaaRdW
namespace Go.Proofs
open Go Go.Gx
variable {oo : World}

theorem rdMayN (id : Int) (r t : Bool) : Ct Try.prog 107 #[.pointer none, .int .i64 id, .bool r, .bool t] [] (fun v ps => v = .int .i64 1 ∧ ps = []) := by
  refine Ct.enter Try.func107 rfl (Nat.le_of_ble_eq_true rfl) ?_
  intro oo w R hS
  change RC _ _ _ _ _ _ [(0, _), (1, _), (2, _), (3, _)] _
  refine RC.seq ?_
  refine RC.region rfl ?_
  refine RL.q (Qt.as rfl) ?_
  refine RL.nil ?_
  refine RE.sqN ?_
  refine RC.seq ?_
  refine RC.block ?_
  refine RC.seq ?_
  refine RC.region rfl ?_
  refine RL.q (Qt.mv rfl) ?_
  refine RL.q (Qt.eqlN rfl rfl) ?_
  refine RL.q (Qt.as rfl) ?_
  refine RL.nil ?_
  refine RE.sqN ?_
  -- stops: cond
  refine RC.condT rfl (rfl) ?_
  refine RC.seq ?_
  refine RC.region rfl ?_
  refine RL.q (Qt.as rfl) ?_
  refine RL.nil ?_
  refine RE.sqN ?_
  refine RC.ret ?_
  refine RE.bkR ?_
  refine RE.sqR ?_
  -- stops: end ret
  exact RE.retB rfl ⟨rfl, rfl⟩ hS
theorem rdPutN (id : Int) (k : KKey) : Ct Try.prog 61 #[.pointer none, .int .i64 id, .agg k.cells.toArray] [] (fun v ps => v = .int .i64 1 ∧ ps = []) := by
  refine Ct.enter Try.func61 rfl (Nat.le_of_ble_eq_true rfl) ?_
  intro oo w R hS
  change RC _ _ _ _ _ _ [(0, _), (1, _), (2, _)] _
  have hkx : k.cells.toArray.extract 0 (0 + 3) = k.cells.toArray := rfl
  refine RC.seq ?_
  refine RC.region rfl ?_
  refine RL.e (Ef.box hS rfl) ?_
  rintro _ w ⟨b5, rfl, hS⟩
  try simp (disch := omega) only [cells_agg'] at hS
  refine RL.q (Qt.as rfl) ?_
  refine RL.nil ?_
  refine RE.sqN ?_
  refine RC.seq ?_
  refine RC.seq ?_
  refine RC.region rfl ?_
  refine RL.q (Qt.mv rfl) ?_
  refine RL.q (Qt.mv rfl) ?_
  refine RL.q (Qt.ldA rfl (by first | exact hS.at 0 rfl | exact hS.at 1 rfl) (by first | exact hkx | rfl) (by first | exact Nat.le_of_ble_eq_true rfl | omega | (simp only [Array.size_map]; omega))) ?_
  -- stops: op call
  refine RL.e (Ef.call hS (kyRight k) rfl rfl Try.call104 [] [0, 1] (by decide) rfl rfl) ?_
  rintro v11 w ⟨ps, ⟨rfl, rfl⟩, hS⟩
  try rw [List.nil_append] at hS
  -- stops: op call
  refine RL.e (Ef.call hS (rdMayN id (kRight k) false) rfl rfl Try.call107 [] [0, 1] (by decide) rfl rfl) ?_
  rintro v12 w ⟨ps, ⟨rfl, rfl⟩, hS⟩
  try rw [List.nil_append] at hS
  refine RL.q (Qt.as rfl) ?_
  refine RL.nil ?_
  refine RE.sqN ?_
  refine RC.seq ?_
  refine RC.region rfl ?_
  refine RL.q (Qt.mv rfl) ?_
  refine RL.q (Qt.neq rfl rfl) ?_
  refine RL.nil ?_
  refine RE.sqN ?_
  -- stops: cond
  refine RC.condT rfl (rfl) ?_
  refine RC.seq ?_
  refine RC.region rfl ?_
  refine RL.q (Qt.mv rfl) ?_
  refine RL.q (Qt.as rfl) ?_
  refine RL.nil ?_
  refine RE.sqN ?_
  refine RC.ret ?_
  refine RE.sqR ?_
  -- stops: end ret
  exact RE.retB rfl ⟨rfl, rfl⟩ (hS.pick [1] (by decide) rfl)
theorem rdChangeN (id : Int) (k : KKey) : Ct Try.prog 60 #[.pointer none, .int .i64 id, .agg k.cells.toArray] [] (fun v ps => v = .int .i64 1 ∧ ps = []) := by
  refine Ct.enter Try.func60 rfl (Nat.le_of_ble_eq_true rfl) ?_
  intro oo w R hS
  change RC _ _ _ _ _ _ [(0, _), (1, _), (2, _)] _
  have hkx : k.cells.toArray.extract 0 (0 + 3) = k.cells.toArray := rfl
  refine RC.seq ?_
  refine RC.region rfl ?_
  refine RL.e (Ef.box hS rfl) ?_
  rintro _ w ⟨b5, rfl, hS⟩
  try simp (disch := omega) only [cells_agg'] at hS
  refine RL.q (Qt.as rfl) ?_
  refine RL.nil ?_
  refine RE.sqN ?_
  refine RC.seq ?_
  refine RC.seq ?_
  refine RC.region rfl ?_
  refine RL.q (Qt.mv rfl) ?_
  refine RL.q (Qt.mv rfl) ?_
  refine RL.q (Qt.ldA rfl (by first | exact hS.at 0 rfl | exact hS.at 1 rfl) (by first | exact hkx | rfl) (by first | exact Nat.le_of_ble_eq_true rfl | omega | (simp only [Array.size_map]; omega))) ?_
  -- stops: op call
  refine RL.e (Ef.call hS (kyRight k) rfl rfl Try.call104 [] [0, 1] (by decide) rfl rfl) ?_
  rintro v13 w ⟨ps, ⟨rfl, rfl⟩, hS⟩
  try rw [List.nil_append] at hS
  -- stops: op call
  refine RL.e (Ef.call hS (rdMayN id (kRight k) true) rfl rfl Try.call107 [] [0, 1] (by decide) rfl rfl) ?_
  rintro v14 w ⟨ps, ⟨rfl, rfl⟩, hS⟩
  try rw [List.nil_append] at hS
  refine RL.q (Qt.as rfl) ?_
  refine RL.nil ?_
  refine RE.sqN ?_
  refine RC.seq ?_
  refine RC.region rfl ?_
  refine RL.q (Qt.mv rfl) ?_
  refine RL.q (Qt.neq rfl rfl) ?_
  refine RL.nil ?_
  refine RE.sqN ?_
  -- stops: cond
  refine RC.condT rfl (rfl) ?_
  refine RC.seq ?_
  refine RC.region rfl ?_
  refine RL.q (Qt.mv rfl) ?_
  refine RL.q (Qt.as rfl) ?_
  refine RL.nil ?_
  refine RE.sqN ?_
  refine RC.ret ?_
  refine RE.sqR ?_
  -- stops: end ret
  exact RE.retB rfl ⟨rfl, rfl⟩ (hS.pick [1] (by decide) rfl)
theorem rdRemoveN (id : Int) : Ct Try.prog 62 #[.pointer none, .int .i64 id] [] (fun v ps => v = .int .i64 1 ∧ ps = []) := by
  refine Ct.enter Try.func62 rfl (Nat.le_of_ble_eq_true rfl) ?_
  intro oo w R hS
  change RC _ _ _ _ _ _ [(0, _), (1, _)] _
  refine RC.seq ?_
  refine RC.region rfl ?_
  refine RL.q (Qt.as rfl) ?_
  refine RL.nil ?_
  refine RE.sqN ?_
  refine RC.seq ?_
  refine RC.region rfl ?_
  refine RL.q (Qt.mv rfl) ?_
  refine RL.q (Qt.mv rfl) ?_
  -- stops: op call
  refine RL.e (Ef.call hS (rdMayN id true true) rfl rfl Try.call107 [] [0] (by decide) rfl rfl) ?_
  rintro v8 w ⟨ps, ⟨rfl, rfl⟩, hS⟩
  try rw [List.nil_append] at hS
  refine RL.q (Qt.as rfl) ?_
  refine RL.nil ?_
  refine RE.sqN ?_
  refine RC.seq ?_
  refine RC.seq ?_
  refine RC.region rfl ?_
  refine RL.q (Qt.mv rfl) ?_
  refine RL.q (Qt.eql rfl rfl) ?_
  refine RL.nil ?_
  refine RE.sqN ?_
  -- stops: cond
  refine RC.condF rfl (rfl) ?_
  refine RC.skip ?_
  refine RE.sqN ?_
  refine RC.seq ?_
  refine RC.region rfl ?_
  refine RL.q (Qt.mv rfl) ?_
  refine RL.q (Qt.as rfl) ?_
  refine RL.nil ?_
  refine RE.sqN ?_
  refine RC.ret ?_
  -- stops: end ret
  exact RE.retB rfl ⟨rfl, rfl⟩ hS
theorem rdTopN : Ct Try.prog 66 #[.pointer none] [] (fun v ps => v = .tuple #[.int .i64 0, .agg KKey.none.cells.toArray, .bool false] ∧ ps = []) := by
  refine Ct.enter Try.func66 rfl (Nat.le_of_ble_eq_true rfl) ?_
  intro oo w R hS
  change RC _ _ _ _ _ _ [(0, _)] _
  refine RC.seq ?_
  refine RC.region rfl ?_
  refine RL.q (Qt.as rfl) ?_
  refine RL.e (Ef.alloc hS) ?_
  rintro _ w ⟨b3, rfl, hS⟩
  try simp (disch := omega) only [cells_agg'] at hS
  refine RL.q (Qt.as rfl) ?_
  refine RL.nil ?_
  refine RE.sqN ?_
  refine RC.seq ?_
  refine RC.seq ?_
  refine RC.region rfl ?_
  refine RL.q (Qt.mv rfl) ?_
  refine RL.q (Qt.eqlN rfl rfl) ?_
  refine RL.nil ?_
  refine RE.sqN ?_
  -- stops: cond
  refine RC.condT rfl (rfl) ?_
  refine RC.seq ?_
  refine RC.region rfl ?_
  refine RL.q (Qt.bldV [.const (Go.Value.bool false), .const (Go.Value.int Go.IntKind.u64 0), .const (Go.Value.int Go.IntKind.u8 0)] rfl rfl (by kernel_rfl)) ?_
  refine RL.q (Qt.as rfl) ?_
  first | refine RL.e0 (Ef.st hS 0 rfl rfl rfl (by rfl) (by rfl) (by first | exact Nat.le_of_ble_eq_true rfl | omega | (simp only [Array.size_map]; omega))) ?_ | refine RL.e0 (Ef.st hS 1 rfl rfl rfl (by rfl) (by rfl) (by first | exact Nat.le_of_ble_eq_true rfl | omega | (simp only [Array.size_map]; omega))) ?_
  intro _ w hS
  simp (disch := omega) only [List.set_cons_zero, List.set_cons_succ, cells_agg', Nat.zero_add, wr, List.setIfInBounds_toArray] at hS
  refine RL.q (Qt.as rfl) ?_
  refine RL.nil ?_
  refine RE.sqN ?_
  refine RC.ret ?_
  refine RE.sqR ?_
  -- stops: end ret
  exact RE.retW (vs := [.int .i64 0, .agg KKey.none.cells.toArray, .bool false]) (by repeat (first | exact ResW.nil | refine ResW.tmp rfl ?_ | refine ResW.cell (by infer_instance) rfl rfl (by first | exact hS.get 0 rfl | exact hS.get 1 rfl | exact hS.get 2 rfl | exact hS.get 3 rfl | exact hS.get 4 rfl | exact hS.get 5 rfl | exact hS.get 6 rfl | exact hS.get 7 rfl | exact hS.get 8 rfl) rfl (Nat.le_of_ble_eq_true rfl) ?_)) ⟨rfl, rfl⟩ (hS.pick [1] (by decide) rfl)
theorem rdTakeN : Ct Try.prog 48 #[.pointer none] [] (fun v ps => v = .tuple #[.int .i64 0, .agg KKey.none.cells.toArray, .bool false] ∧ ps = []) := by
  refine Ct.enter Try.func48 rfl (Nat.le_of_ble_eq_true rfl) ?_
  intro oo w R hS
  change RC _ _ _ _ _ _ [(0, _)] _
  refine RC.seq ?_
  refine RC.region rfl ?_
  refine RL.q (Qt.as rfl) ?_
  refine RL.e (Ef.alloc hS) ?_
  rintro _ w ⟨b3, rfl, hS⟩
  try simp (disch := omega) only [cells_agg'] at hS
  refine RL.q (Qt.as rfl) ?_
  refine RL.nil ?_
  refine RE.sqN ?_
  refine RC.seq ?_
  refine RC.region rfl ?_
  refine RL.q (Qt.mv rfl) ?_
  -- stops: op call
  refine RL.e (Ef.call hS (rdTopN) rfl rfl Try.call66 [] [0, 1] (by decide) rfl rfl) ?_
  rintro v10 w ⟨ps, ⟨rfl, rfl⟩, hS⟩
  try rw [List.nil_append] at hS
  refine RL.q (Qt.mv rfl) ?_
  refine RL.q (Qt.ext rfl rfl) ?_
  refine RL.q (Qt.ext rfl rfl) ?_
  refine RL.q (Qt.ext rfl rfl) ?_
  refine RL.e (Ef.alloc hS) ?_
  rintro _ w ⟨b6, rfl, hS⟩
  try simp (disch := omega) only [cells_agg'] at hS
  refine RL.q (Qt.as rfl) ?_
  first | refine RL.e0 (Ef.st hS 0 rfl rfl rfl (by rfl) (by rfl) (by first | exact Nat.le_of_ble_eq_true rfl | omega | (simp only [Array.size_map]; omega))) ?_ | refine RL.e0 (Ef.st hS 1 rfl rfl rfl (by rfl) (by rfl) (by first | exact Nat.le_of_ble_eq_true rfl | omega | (simp only [Array.size_map]; omega))) ?_ | refine RL.e0 (Ef.st hS 2 rfl rfl rfl (by rfl) (by rfl) (by first | exact Nat.le_of_ble_eq_true rfl | omega | (simp only [Array.size_map]; omega))) ?_
  intro _ w hS
  simp (disch := omega) only [List.set_cons_zero, cells_agg'] at hS
  refine RL.q (Qt.as rfl) ?_
  refine RL.nil ?_
  refine RE.sqN ?_
  refine RC.seq ?_
  refine RC.seq ?_
  refine RC.region rfl ?_
  refine RL.q (Qt.mv rfl) ?_
  refine RL.nil ?_
  refine RE.sqN ?_
  -- stops: cond
  refine RC.condF rfl (rfl) ?_
  refine RC.skip ?_
  refine RE.sqN ?_
  refine RC.seq ?_
  refine RC.drawn 6 [0, 1, 2, 3, 4, 5] (fun w' => w'.heap[b6]? = some (.cells (wr #[.bool false, .int .u64 0, .int .u8 0] 0 KKey.none.cells) 60 (0, 0))) (by kernel_rfl) (by kernel_rfl) ((by first | exact hS.drew.get 0 rfl | exact hS.drew.get 1 rfl | exact hS.drew.get 2 rfl | exact hS.drew.get 3 rfl | exact hS.drew.get 4 rfl)) (fun hh => ?_)
  replace hS := hS.drew
  refine RH.q hh (Calm.sq Calm.body) rfl (by kernel_rfl) (Qt.mv rfl) ?_
  refine RH.q hh (Calm.sq Calm.body) rfl (by kernel_rfl) (Qt.ldA rfl (fun _ h => h) (by first  | rfl) (by first | exact Nat.le_of_ble_eq_true rfl | omega | (simp only [Array.size_map]; omega))) ?_
  refine RH.q hh (Calm.sq Calm.body) rfl (by kernel_rfl) (Qt.mv rfl) ?_
  refine RH.q hh (Calm.sq Calm.body) rfl (by kernel_rfl) (Qt.as rfl) ?_
  first | refine RH.e0 hh rfl (by kernel_rfl) (Ef.st hS 0 rfl rfl rfl (by rfl) (by rfl) (by first | exact Nat.le_of_ble_eq_true rfl | omega | (simp only [Array.size_map]; omega))) ?_ | refine RH.e0 hh rfl (by kernel_rfl) (Ef.st hS 1 rfl rfl rfl (by rfl) (by rfl) (by first | exact Nat.le_of_ble_eq_true rfl | omega | (simp only [Array.size_map]; omega))) ?_ | refine RH.e0 hh rfl (by kernel_rfl) (Ef.st hS 2 rfl rfl rfl (by rfl) (by rfl) (by first | exact Nat.le_of_ble_eq_true rfl | omega | (simp only [Array.size_map]; omega))) ?_
  intro _ w hS
  simp (disch := omega) only [List.set_cons_zero, List.set_cons_succ, cells_agg', Nat.zero_add] at hS
  refine ⟨(by first | exact hS.get 0 rfl | exact hS.get 1 rfl | exact hS.get 2 rfl | exact hS.get 3 rfl | exact hS.get 4 rfl), ?_⟩
  refine RH.q hh (Calm.sq Calm.body) rfl (by kernel_rfl) (Qt.as rfl) ?_
  refine RH.done hh (by kernel_rfl) ?_
  refine RL.nil ?_
  refine RE.sqN ?_
  refine RC.ret ?_
  -- stops: end ret
  exact RE.retW (vs := [.int .i64 0, .agg KKey.none.cells.toArray, .bool false]) (by repeat (first | exact ResW.nil | refine ResW.tmp rfl ?_ | refine ResW.cell (by infer_instance) rfl rfl (by first | exact hS.get 0 rfl | exact hS.get 1 rfl | exact hS.get 2 rfl | exact hS.get 3 rfl | exact hS.get 4 rfl | exact hS.get 5 rfl | exact hS.get 6 rfl | exact hS.get 7 rfl | exact hS.get 8 rfl) rfl (Nat.le_of_ble_eq_true rfl) ?_)) ⟨rfl, rfl⟩ (hS.pick [2] (by decide) rfl)
theorem rdKeyN (id : Int) : Ct Try.prog 59 #[.pointer none, .int .i64 id] [] (fun v ps => v = .tuple #[.agg KKey.none.cells.toArray, .bool false] ∧ ps = []) := by
  refine Ct.enter Try.func59 rfl (Nat.le_of_ble_eq_true rfl) ?_
  intro oo w R hS
  change RC _ _ _ _ _ _ [(0, _), (1, _)] _
  refine RC.seq ?_
  refine RC.region rfl ?_
  refine RL.e (Ef.alloc hS) ?_
  rintro _ w ⟨b4, rfl, hS⟩
  try simp (disch := omega) only [cells_agg'] at hS
  refine RL.q (Qt.as rfl) ?_
  refine RL.nil ?_
  refine RE.sqN ?_
  refine RC.seq ?_
  refine RC.seq ?_
  refine RC.region rfl ?_
  refine RL.q (Qt.mv rfl) ?_
  refine RL.q (Qt.eqlN rfl rfl) ?_
  refine RL.nil ?_
  refine RE.sqN ?_
  -- stops: cond
  refine RC.condT rfl (rfl) ?_
  refine RC.seq ?_
  refine RC.region rfl ?_
  refine RL.q (Qt.bldV [.const (Go.Value.bool false), .const (Go.Value.int Go.IntKind.u64 0), .const (Go.Value.int Go.IntKind.u8 0)] rfl rfl (by kernel_rfl)) ?_
  first | refine RL.e0 (Ef.st hS 0 rfl rfl rfl (by rfl) (by rfl) (by first | exact Nat.le_of_ble_eq_true rfl | omega | (simp only [Array.size_map]; omega))) ?_ | refine RL.e0 (Ef.st hS 1 rfl rfl rfl (by rfl) (by rfl) (by first | exact Nat.le_of_ble_eq_true rfl | omega | (simp only [Array.size_map]; omega))) ?_
  intro _ w hS
  simp (disch := omega) only [List.set_cons_zero, List.set_cons_succ, cells_agg', Nat.zero_add, wr, List.setIfInBounds_toArray] at hS
  refine RL.q (Qt.as rfl) ?_
  refine RL.nil ?_
  refine RE.sqN ?_
  refine RC.ret ?_
  refine RE.sqR ?_
  -- stops: end ret
  exact RE.retW (vs := [.agg KKey.none.cells.toArray, .bool false]) (by repeat (first | exact ResW.nil | refine ResW.tmp rfl ?_ | refine ResW.cell (by infer_instance) rfl rfl (by first | exact hS.get 0 rfl | exact hS.get 1 rfl | exact hS.get 2 rfl | exact hS.get 3 rfl | exact hS.get 4 rfl | exact hS.get 5 rfl | exact hS.get 6 rfl | exact hS.get 7 rfl | exact hS.get 8 rfl) rfl (Nat.le_of_ble_eq_true rfl) ?_)) ⟨rfl, rfl⟩ (hS.pick [1] (by decide) rfl)
theorem rdLenN : Ct Try.prog 50 #[.pointer none] [] (fun v ps => v = .int .i64 0 ∧ ps = []) := by
  refine Ct.enter Try.func50 rfl (Nat.le_of_ble_eq_true rfl) ?_
  intro oo w R hS
  change RC _ _ _ _ _ _ [(0, _)] _
  refine RC.seq ?_
  refine RC.region rfl ?_
  refine RL.q (Qt.as rfl) ?_
  refine RL.nil ?_
  refine RE.sqN ?_
  refine RC.seq ?_
  refine RC.seq ?_
  refine RC.region rfl ?_
  refine RL.q (Qt.mv rfl) ?_
  refine RL.q (Qt.eqlN rfl rfl) ?_
  refine RL.nil ?_
  refine RE.sqN ?_
  -- stops: cond
  refine RC.condT rfl (rfl) ?_
  refine RC.seq ?_
  refine RC.region rfl ?_
  refine RL.q (Qt.as rfl) ?_
  refine RL.nil ?_
  refine RE.sqN ?_
  refine RC.ret ?_
  refine RE.sqR ?_
  -- stops: end ret
  exact RE.retB rfl ⟨rfl, rfl⟩ hS
theorem rdForkN : Ct Try.prog 63 #[.pointer none] [] (fun v ps => v = .pointer none ∧ ps = []) := by
  refine Ct.enter Try.func63 rfl (Nat.le_of_ble_eq_true rfl) ?_
  intro oo w R hS
  change RC _ _ _ _ _ _ [(0, _)] _
  refine RC.seq ?_
  refine RC.region rfl ?_
  refine RL.q (Qt.as rfl) ?_
  refine RL.nil ?_
  refine RE.sqN ?_
  refine RC.seq ?_
  refine RC.seq ?_
  refine RC.region rfl ?_
  refine RL.q (Qt.mv rfl) ?_
  refine RL.q (Qt.eqlN rfl rfl) ?_
  refine RL.nil ?_
  refine RE.sqN ?_
  -- stops: cond
  refine RC.condT rfl (rfl) ?_
  refine RC.seq ?_
  refine RC.region rfl ?_
  refine RL.q (Qt.as rfl) ?_
  refine RL.nil ?_
  refine RE.sqN ?_
  refine RC.ret ?_
  refine RE.sqR ?_
  -- stops: end ret
  exact RE.retB rfl ⟨rfl, rfl⟩ hS
theorem rdListN : Ct Try.prog 47 #[.pointer none] [] (fun v ps => v = .slice none 0 0 ∧ ps = []) := by
  refine Ct.enter Try.func47 rfl (Nat.le_of_ble_eq_true rfl) ?_
  intro oo w R hS
  change RC _ _ _ _ _ _ [(0, _)] _
  refine RC.seq ?_
  refine RC.region rfl ?_
  refine RL.q (Qt.as rfl) ?_
  refine RL.nil ?_
  refine RE.sqN ?_
  refine RC.seq ?_
  refine RC.seq ?_
  refine RC.region rfl ?_
  refine RL.q (Qt.mv rfl) ?_
  refine RL.q (Qt.eqlN rfl rfl) ?_
  refine RL.nil ?_
  refine RE.sqN ?_
  -- stops: cond
  refine RC.condT rfl (rfl) ?_
  refine RC.seq ?_
  refine RC.region rfl ?_
  refine RL.q (Qt.as rfl) ?_
  refine RL.nil ?_
  refine RE.sqN ?_
  refine RC.ret ?_
  refine RE.sqR ?_
  -- stops: end ret
  exact RE.retB rfl ⟨rfl, rfl⟩ hS

set_option maxHeartbeats 4000000 in
theorem rdLawNone (x : RDeed) (n most : Int) (F0 : Frag) : Ct Try.prog 17 #[x.val, .int .i64 n, .int .i64 most] [pin F0] (fun v' ps => v' = .bool true ∧ ps = [pin F0]) := by
  refine Ct.enter Try.func17 rfl (Nat.le_of_ble_eq_true rfl) ?_
  intro oo w R hS
  change RC _ _ _ _ _ _ [(0, _), (1, _), (2, _)] _
  have hkx : x.cells.toArray.extract (0 + 2) (0 + 2 + 3) = x.k.cells.toArray := rfl
  have hkw : ∀ k : KKey, (wr #[.bool false, .int .u64 0, .int .u8 0] 0 k.cells).extract 0 (0 + 3) = k.cells.toArray := fun k => rfl
  refine RC.seq ?_
  refine RC.region rfl ?_
  refine RL.e (Ef.box hS rfl) ?_
  rintro _ w ⟨b3, rfl, hS⟩
  try simp (disch := omega) only [List.set_cons_zero, List.set_cons_succ, cells_int, cells_bool, cells_ptr, cells_slice, cells_func, cells_agg, cells_map, cells_int', cells_bool', cells_ptr', cells_slice', cells_agg', cells_map', cells_func', Nat.zero_add, wr, List.setIfInBounds_toArray] at hS
  refine RL.q (Qt.as rfl) ?_
  refine RL.nil ?_
  refine RE.sqN ?_
  refine RC.seq ?_
  refine RC.region rfl ?_
  refine RL.q (Qt.as rfl) ?_
  refine RL.nil ?_
  refine RE.sqN ?_
  refine RC.seq ?_
  refine RC.region rfl ?_
  refine RL.q (Qt.mv rfl) ?_
  -- stops: op call
  refine RL.e (Ef.call hS (rdTakeN) rfl rfl Try.call48 [] [0, 1, 2] (by decide) rfl rfl) ?_
  rintro v19 w ⟨ps, ⟨rfl, rfl⟩, hS⟩
  try rw [List.nil_append] at hS
  refine RL.q (Qt.mv rfl) ?_
  refine RL.q (Qt.ext rfl rfl) ?_
  refine RL.q (Qt.ext rfl rfl) ?_
  refine RL.q (Qt.ext rfl rfl) ?_
  refine RL.e (Ef.alloc hS) ?_
  rintro _ w ⟨b9, rfl, hS⟩
  try simp (disch := omega) only [cells_agg'] at hS
  refine RL.q (Qt.as rfl) ?_
  first | refine RL.e0 (Ef.st hS 0 rfl rfl rfl (by rfl) (by rfl) (by first | exact Nat.le_of_ble_eq_true rfl | omega | (simp only [Array.size_map]; omega))) ?_ | refine RL.e0 (Ef.st hS 1 rfl rfl rfl (by rfl) (by rfl) (by first | exact Nat.le_of_ble_eq_true rfl | omega | (simp only [Array.size_map]; omega))) ?_ | refine RL.e0 (Ef.st hS 2 rfl rfl rfl (by rfl) (by rfl) (by first | exact Nat.le_of_ble_eq_true rfl | omega | (simp only [Array.size_map]; omega))) ?_ | refine RL.e0 (Ef.st hS 3 rfl rfl rfl (by rfl) (by rfl) (by first | exact Nat.le_of_ble_eq_true rfl | omega | (simp only [Array.size_map]; omega))) ?_
  intro _ w hS
  simp (disch := omega) only [List.set_cons_zero, cells_agg'] at hS
  refine RL.q (Qt.as rfl) ?_
  refine RL.nil ?_
  refine RE.sqN ?_
  refine RC.seq ?_
  refine RC.region rfl ?_
  refine RL.q (Qt.mv rfl) ?_
  -- stops: op call
  refine RL.e (Ef.call hS (rdTopN) rfl rfl Try.call66 [] [0, 1, 2, 3] (by decide) rfl rfl) ?_
  rintro v25 w ⟨ps, ⟨rfl, rfl⟩, hS⟩
  try rw [List.nil_append] at hS
  refine RL.q (Qt.mv rfl) ?_
  refine RL.q (Qt.ext rfl rfl) ?_
  refine RL.q (Qt.ext rfl rfl) ?_
  refine RL.q (Qt.ext rfl rfl) ?_
  refine RL.e (Ef.alloc hS) ?_
  rintro _ w ⟨b12, rfl, hS⟩
  try simp (disch := omega) only [cells_agg'] at hS
  refine RL.q (Qt.as rfl) ?_
  first | refine RL.e0 (Ef.st hS 0 rfl rfl rfl (by rfl) (by rfl) (by first | exact Nat.le_of_ble_eq_true rfl | omega | (simp only [Array.size_map]; omega))) ?_ | refine RL.e0 (Ef.st hS 1 rfl rfl rfl (by rfl) (by rfl) (by first | exact Nat.le_of_ble_eq_true rfl | omega | (simp only [Array.size_map]; omega))) ?_ | refine RL.e0 (Ef.st hS 2 rfl rfl rfl (by rfl) (by rfl) (by first | exact Nat.le_of_ble_eq_true rfl | omega | (simp only [Array.size_map]; omega))) ?_ | refine RL.e0 (Ef.st hS 3 rfl rfl rfl (by rfl) (by rfl) (by first | exact Nat.le_of_ble_eq_true rfl | omega | (simp only [Array.size_map]; omega))) ?_ | refine RL.e0 (Ef.st hS 4 rfl rfl rfl (by rfl) (by rfl) (by first | exact Nat.le_of_ble_eq_true rfl | omega | (simp only [Array.size_map]; omega))) ?_
  intro _ w hS
  simp (disch := omega) only [List.set_cons_zero, cells_agg'] at hS
  refine RL.q (Qt.as rfl) ?_
  refine RL.nil ?_
  refine RE.sqN ?_
  refine RC.seq ?_
  refine RC.region rfl ?_
  refine RL.q (Qt.mv rfl) ?_
  refine RL.q (Qt.fld rfl) ?_
  refine RL.q (Qt.ld rfl (by first | exact hS.at 0 rfl | exact hS.at 1 rfl | exact hS.at 2 rfl | exact hS.at 3 rfl | exact hS.at 4 rfl) (by first  | rfl)) ?_
  -- stops: op call
  refine RL.e (Ef.call hS (rdKeyN x.id) rfl rfl Try.call59 [] [0, 1, 2, 3, 4] (by decide) rfl rfl) ?_
  rintro v33 w ⟨ps, ⟨rfl, rfl⟩, hS⟩
  try rw [List.nil_append] at hS
  refine RL.q (Qt.mv rfl) ?_
  refine RL.q (Qt.ext rfl rfl) ?_
  refine RL.q (Qt.ext rfl rfl) ?_
  refine RL.e (Ef.alloc hS) ?_
  rintro _ w ⟨b14, rfl, hS⟩
  try simp (disch := omega) only [cells_agg'] at hS
  first | refine RL.e0 (Ef.st hS 0 rfl rfl rfl (by rfl) (by rfl) (by first | exact Nat.le_of_ble_eq_true rfl | omega | (simp only [Array.size_map]; omega))) ?_ | refine RL.e0 (Ef.st hS 1 rfl rfl rfl (by rfl) (by rfl) (by first | exact Nat.le_of_ble_eq_true rfl | omega | (simp only [Array.size_map]; omega))) ?_ | refine RL.e0 (Ef.st hS 2 rfl rfl rfl (by rfl) (by rfl) (by first | exact Nat.le_of_ble_eq_true rfl | omega | (simp only [Array.size_map]; omega))) ?_ | refine RL.e0 (Ef.st hS 3 rfl rfl rfl (by rfl) (by rfl) (by first | exact Nat.le_of_ble_eq_true rfl | omega | (simp only [Array.size_map]; omega))) ?_ | refine RL.e0 (Ef.st hS 4 rfl rfl rfl (by rfl) (by rfl) (by first | exact Nat.le_of_ble_eq_true rfl | omega | (simp only [Array.size_map]; omega))) ?_ | refine RL.e0 (Ef.st hS 5 rfl rfl rfl (by rfl) (by rfl) (by first | exact Nat.le_of_ble_eq_true rfl | omega | (simp only [Array.size_map]; omega))) ?_
  intro _ w hS
  simp (disch := omega) only [List.set_cons_zero, cells_agg'] at hS
  refine RL.q (Qt.as rfl) ?_
  refine RL.nil ?_
  refine RE.sqN ?_
  refine RC.seq ?_
  refine RC.region rfl ?_
  refine RL.q (Qt.bldV [.const (Go.Value.bool false), .const (Go.Value.int Go.IntKind.u64 0), .const (Go.Value.int Go.IntKind.u8 0)] rfl rfl (by kernel_rfl)) ?_
  refine RL.e (Ef.alloc hS) ?_
  rintro _ w ⟨b16, rfl, hS⟩
  try simp (disch := omega) only [cells_agg'] at hS
  first | refine RL.e0 (Ef.st hS 0 rfl rfl rfl (by rfl) (by rfl) (by first | exact Nat.le_of_ble_eq_true rfl | omega | (simp only [Array.size_map]; omega))) ?_ | refine RL.e0 (Ef.st hS 1 rfl rfl rfl (by rfl) (by rfl) (by first | exact Nat.le_of_ble_eq_true rfl | omega | (simp only [Array.size_map]; omega))) ?_ | refine RL.e0 (Ef.st hS 2 rfl rfl rfl (by rfl) (by rfl) (by first | exact Nat.le_of_ble_eq_true rfl | omega | (simp only [Array.size_map]; omega))) ?_ | refine RL.e0 (Ef.st hS 3 rfl rfl rfl (by rfl) (by rfl) (by first | exact Nat.le_of_ble_eq_true rfl | omega | (simp only [Array.size_map]; omega))) ?_ | refine RL.e0 (Ef.st hS 4 rfl rfl rfl (by rfl) (by rfl) (by first | exact Nat.le_of_ble_eq_true rfl | omega | (simp only [Array.size_map]; omega))) ?_ | refine RL.e0 (Ef.st hS 5 rfl rfl rfl (by rfl) (by rfl) (by first | exact Nat.le_of_ble_eq_true rfl | omega | (simp only [Array.size_map]; omega))) ?_ | refine RL.e0 (Ef.st hS 6 rfl rfl rfl (by rfl) (by rfl) (by first | exact Nat.le_of_ble_eq_true rfl | omega | (simp only [Array.size_map]; omega))) ?_
  intro _ w hS
  simp (disch := omega) only [List.set_cons_zero, List.set_cons_succ, cells_agg', Nat.zero_add, wr, List.setIfInBounds_toArray] at hS
  refine RL.nil ?_
  refine RE.sqN ?_
  refine RC.seq ?_
  refine RC.region rfl ?_
  -- stops: op call
  refine RL.e (Ef.call hS (rdLive) rfl rfl Try.call45 [] [0, 1, 2, 3, 4, 5, 6] (by decide) rfl rfl) ?_
  rintro v37 w ⟨ps, ⟨rfl, p', l', rfl⟩, hS⟩
  refine RL.q (Qt.mv rfl) ?_
  -- stops: guard
  refine RL.q (Qt.mv rfl) ?_ (Runs.guard rfl rfl rfl (rfl))
  refine RL.q (Qt.fld rfl) ?_ (Runs.guard rfl rfl rfl (rfl))
  refine RL.q (Qt.ld rfl (by first | exact hS.at 0 rfl | exact hS.at 1 rfl | exact hS.at 2 rfl | exact hS.at 3 rfl | exact hS.at 4 rfl | exact hS.at 5 rfl | exact hS.at 6 rfl | exact hS.at 7 rfl) (by first  | rfl)) ?_ (Runs.guard rfl rfl rfl (rfl))
  refine RL.q (Qt.fld rfl) ?_ (Runs.guard rfl rfl rfl (rfl))
  refine RL.q (Qt.ldA rfl (by first | exact hS.at 0 rfl | exact hS.at 1 rfl | exact hS.at 2 rfl | exact hS.at 3 rfl | exact hS.at 4 rfl | exact hS.at 5 rfl | exact hS.at 6 rfl | exact hS.at 7 rfl) (by first | exact hkx | rfl) (by first | exact Nat.le_of_ble_eq_true rfl | omega | (simp only [Array.size_map]; omega))) ?_ (Runs.guard rfl rfl rfl (rfl))
  -- stops: op call
  refine RL.e (Ef.call hS (rdPutN x.id x.k) rfl rfl Try.call61 [] [0, 1, 2, 3, 4, 5, 6, 7] (by decide) rfl rfl) ?_ (Runs.guard rfl rfl rfl (rfl))
  rintro v44 w ⟨ps, ⟨rfl, rfl⟩, hS⟩
  try rw [List.nil_append] at hS
  refine RL.q (Qt.eql rfl rfl) ?_ (Runs.guard rfl rfl rfl (rfl))
  refine RL.q ((by first | exact Qt.pickT rfl (by assumption) rfl | exact Qt.pickF rfl (by assumption) rfl | exact Qt.pickT rfl rfl rfl | exact Qt.pickF rfl rfl rfl)) ?_
  refine RL.q (Qt.mv rfl) ?_
  -- stops: guard
  refine RL.q (Qt.mv rfl) ?_ (Runs.guard rfl rfl rfl (rfl))
  refine RL.q (Qt.fld rfl) ?_ (Runs.guard rfl rfl rfl (rfl))
  refine RL.q (Qt.ld rfl (by first | exact hS.at 0 rfl | exact hS.at 1 rfl | exact hS.at 2 rfl | exact hS.at 3 rfl | exact hS.at 4 rfl | exact hS.at 5 rfl | exact hS.at 6 rfl | exact hS.at 7 rfl) (by first  | rfl)) ?_ (Runs.guard rfl rfl rfl (rfl))
  refine RL.q (Qt.fld rfl) ?_ (Runs.guard rfl rfl rfl (rfl))
  refine RL.q (Qt.ldA rfl (by first | exact hS.at 0 rfl | exact hS.at 1 rfl | exact hS.at 2 rfl | exact hS.at 3 rfl | exact hS.at 4 rfl | exact hS.at 5 rfl | exact hS.at 6 rfl | exact hS.at 7 rfl) (by first | exact hkx | rfl) (by first | exact Nat.le_of_ble_eq_true rfl | omega | (simp only [Array.size_map]; omega))) ?_ (Runs.guard rfl rfl rfl (rfl))
  -- stops: op call
  refine RL.e (Ef.call hS (rdChangeN x.id x.k) rfl rfl Try.call60 [] [0, 1, 2, 3, 4, 5, 6, 7] (by decide) rfl rfl) ?_ (Runs.guard rfl rfl rfl (rfl))
  rintro v53 w ⟨ps, ⟨rfl, rfl⟩, hS⟩
  try rw [List.nil_append] at hS
  refine RL.q (Qt.eql rfl rfl) ?_ (Runs.guard rfl rfl rfl (rfl))
  refine RL.q ((by first | exact Qt.pickT rfl (by assumption) rfl | exact Qt.pickF rfl (by assumption) rfl | exact Qt.pickT rfl rfl rfl | exact Qt.pickF rfl rfl rfl)) ?_
  refine RL.q (Qt.mv rfl) ?_
  -- stops: guard
  refine RL.q (Qt.mv rfl) ?_ (Runs.guard rfl rfl rfl (rfl))
  refine RL.q (Qt.fld rfl) ?_ (Runs.guard rfl rfl rfl (rfl))
  refine RL.q (Qt.ld rfl (by first | exact hS.at 0 rfl | exact hS.at 1 rfl | exact hS.at 2 rfl | exact hS.at 3 rfl | exact hS.at 4 rfl | exact hS.at 5 rfl | exact hS.at 6 rfl | exact hS.at 7 rfl) (by first  | rfl)) ?_ (Runs.guard rfl rfl rfl (rfl))
  -- stops: op call
  refine RL.e (Ef.call hS (rdRemoveN x.id) rfl rfl Try.call62 [] [0, 1, 2, 3, 4, 5, 6, 7] (by decide) rfl rfl) ?_ (Runs.guard rfl rfl rfl (rfl))
  rintro v60 w ⟨ps, ⟨rfl, rfl⟩, hS⟩
  try rw [List.nil_append] at hS
  refine RL.q (Qt.eql rfl rfl) ?_ (Runs.guard rfl rfl rfl (rfl))
  refine RL.q ((by first | exact Qt.pickT rfl (by assumption) rfl | exact Qt.pickF rfl (by assumption) rfl | exact Qt.pickT rfl rfl rfl | exact Qt.pickF rfl rfl rfl)) ?_
  refine RL.q (Qt.mv rfl) ?_
  refine RLG.start 63 true rfl ?_
  refine RLG.q rfl rfl rfl (fun _ => Qt.mv rfl) ?_
  refine RLG.q rfl rfl rfl (fun hg => by (try simp only [decide_eq_true_eq] at hg); exact Qt.eql rfl rfl) ?_
  refine RLG.and rfl rfl ?_
  refine RL.q (Qt.mv rfl) ?_
  refine RLG.start 67 true rfl ?_
  refine RLG.q rfl rfl rfl (fun hg => by (try simp only [decide_eq_true_eq, Bool.and_eq_true] at hg); exact Qt.ldA rfl (by first | exact hS.at 0 rfl | exact hS.at 1 rfl | exact hS.at 2 rfl | exact hS.at 3 rfl | exact hS.at 4 rfl | exact hS.at 5 rfl | exact hS.at 6 rfl | exact hS.at 7 rfl) (by first | exact hkx | rfl) (by first | exact Nat.le_of_ble_eq_true rfl | omega | (simp only [Array.size_map]; omega))) ?_
  refine RLG.q rfl rfl rfl (fun hg => by (try simp only [decide_eq_true_eq, Bool.and_eq_true] at hg); exact Qt.ldA rfl (by first | exact hS.at 0 rfl | exact hS.at 1 rfl | exact hS.at 2 rfl | exact hS.at 3 rfl | exact hS.at 4 rfl | exact hS.at 5 rfl | exact hS.at 6 rfl | exact hS.at 7 rfl) (by first | exact hkx | rfl) (by first | exact Nat.le_of_ble_eq_true rfl | omega | (simp only [Array.size_map]; omega))) ?_
  refine RLG.q rfl rfl rfl (fun hg => by (try simp only [decide_eq_true_eq, Bool.and_eq_true] at hg); exact Qt.eqlT rfl rfl (keyEq KKey.none KKey.none)) ?_
  refine RLG.and rfl rfl ?_
  refine RL.q (Qt.mv rfl) ?_
  refine RLG.start 72 true rfl ?_
  refine RLG.q rfl rfl rfl (fun _ => Qt.mv rfl) ?_
  refine RLG.q rfl rfl rfl (fun _ => Qt.not rfl) ?_
  refine RLG.and rfl rfl ?_
  refine RL.q (Qt.mv rfl) ?_
  refine RLG.start 76 true rfl ?_
  refine RLG.q rfl rfl rfl (fun _ => Qt.mv rfl) ?_
  refine RLG.q rfl rfl rfl (fun hg => by (try simp only [decide_eq_true_eq, Bool.and_eq_true] at hg); exact Qt.eql rfl rfl) ?_
  refine RLG.and rfl rfl ?_
  refine RL.q (Qt.mv rfl) ?_
  refine RLG.start 80 true rfl ?_
  refine RLG.q rfl rfl rfl (fun hg => by (try simp only [decide_eq_true_eq, Bool.and_eq_true] at hg); exact Qt.ldA rfl (by first | exact hS.at 0 rfl | exact hS.at 1 rfl | exact hS.at 2 rfl | exact hS.at 3 rfl | exact hS.at 4 rfl | exact hS.at 5 rfl | exact hS.at 6 rfl | exact hS.at 7 rfl) (by first | exact hkx | rfl) (by first | exact Nat.le_of_ble_eq_true rfl | omega | (simp only [Array.size_map]; omega))) ?_
  refine RLG.q rfl rfl rfl (fun hg => by (try simp only [decide_eq_true_eq, Bool.and_eq_true] at hg); exact Qt.ldA rfl (by first | exact hS.at 0 rfl | exact hS.at 1 rfl | exact hS.at 2 rfl | exact hS.at 3 rfl | exact hS.at 4 rfl | exact hS.at 5 rfl | exact hS.at 6 rfl | exact hS.at 7 rfl) (by first | exact hkx | rfl) (by first | exact Nat.le_of_ble_eq_true rfl | omega | (simp only [Array.size_map]; omega))) ?_
  refine RLG.q rfl rfl rfl (fun hg => by (try simp only [decide_eq_true_eq, Bool.and_eq_true] at hg); exact Qt.eqlT rfl rfl (keyEq KKey.none KKey.none)) ?_
  refine RLG.and rfl rfl ?_
  refine RL.q (Qt.mv rfl) ?_
  refine RLG.start 85 true rfl ?_
  refine RLG.q rfl rfl rfl (fun _ => Qt.mv rfl) ?_
  refine RLG.q rfl rfl rfl (fun _ => Qt.not rfl) ?_
  refine RLG.and rfl rfl ?_
  refine RL.q (Qt.mv rfl) ?_
  refine RLG.start 89 true rfl ?_
  refine RLG.q rfl rfl rfl (fun hg => by (try simp only [decide_eq_true_eq, Bool.and_eq_true] at hg); exact Qt.ldA rfl (by first | exact hS.at 0 rfl | exact hS.at 1 rfl | exact hS.at 2 rfl | exact hS.at 3 rfl | exact hS.at 4 rfl | exact hS.at 5 rfl | exact hS.at 6 rfl | exact hS.at 7 rfl) (by first | exact hkx | rfl) (by first | exact Nat.le_of_ble_eq_true rfl | omega | (simp only [Array.size_map]; omega))) ?_
  refine RLG.q rfl rfl rfl (fun hg => by (try simp only [decide_eq_true_eq, Bool.and_eq_true] at hg); exact Qt.ldA rfl (by first | exact hS.at 0 rfl | exact hS.at 1 rfl | exact hS.at 2 rfl | exact hS.at 3 rfl | exact hS.at 4 rfl | exact hS.at 5 rfl | exact hS.at 6 rfl | exact hS.at 7 rfl) (by first | exact hkx | rfl) (by first | exact Nat.le_of_ble_eq_true rfl | omega | (simp only [Array.size_map]; omega))) ?_
  refine RLG.q rfl rfl rfl (fun hg => by (try simp only [decide_eq_true_eq, Bool.and_eq_true] at hg); exact Qt.eqlT rfl rfl (keyEq KKey.none KKey.none)) ?_
  refine RLG.and rfl rfl ?_
  refine RL.q (Qt.mv rfl) ?_
  refine RLG.start 94 true rfl ?_
  refine RLG.q rfl rfl rfl (fun _ => Qt.mv rfl) ?_
  refine RLG.q rfl rfl rfl (fun _ => Qt.not rfl) ?_
  refine RLG.and rfl rfl ?_
  refine RL.q (Qt.mv rfl) ?_
  -- stops: guard
  refine RL.q (Qt.mv rfl) ?_ (Runs.guard rfl rfl rfl (by simp))
  -- stops: op call
  refine RL.e (Ef.call hS (rdListN) rfl rfl Try.call47 [] [0, 1, 2, 3, 4, 5, 6, 7] (by decide) rfl rfl) ?_ (Runs.guard rfl rfl rfl (by simp))
  rintro v100 w ⟨ps, ⟨rfl, rfl⟩, hS⟩
  try rw [List.nil_append] at hS
  refine RL.q (Qt.lenS rfl) ?_ (Runs.guard rfl rfl rfl (by simp))
  refine RL.q (Qt.eql rfl rfl) ?_ (Runs.guard rfl rfl rfl (by simp))
  refine RL.q ((by first | exact Qt.pickT rfl (by assumption) rfl | exact Qt.pickF rfl (by assumption) rfl | exact Qt.pickT rfl rfl rfl | exact Qt.pickF rfl rfl rfl | exact Qt.pickT rfl (by simp) rfl)) ?_
  refine RL.q (Qt.mv rfl) ?_
  -- stops: guard
  refine RL.q (Qt.mv rfl) ?_ (Runs.guard rfl rfl rfl (rfl))
  -- stops: op call
  refine RL.e (Ef.call hS (rdLenN) rfl rfl Try.call50 [] [0, 1, 2, 3, 4, 5, 6, 7] (by decide) rfl rfl) ?_ (Runs.guard rfl rfl rfl (rfl))
  rintro v106 w ⟨ps, ⟨rfl, rfl⟩, hS⟩
  try rw [List.nil_append] at hS
  refine RL.q (Qt.eql rfl rfl) ?_ (Runs.guard rfl rfl rfl (rfl))
  refine RL.q ((by first | exact Qt.pickT rfl (by assumption) rfl | exact Qt.pickF rfl (by assumption) rfl | exact Qt.pickT rfl rfl rfl | exact Qt.pickF rfl rfl rfl | exact Qt.pickT rfl (by simp) rfl)) ?_
  refine RL.q (Qt.mv rfl) ?_
  -- stops: guard
  refine RL.q (Qt.mv rfl) ?_ (Runs.guard rfl rfl rfl (rfl))
  -- stops: op call
  refine RL.e (Ef.call hS (rdForkN) rfl rfl Try.call63 [] [0, 1, 2, 3, 4, 5, 6, 7] (by decide) rfl rfl) ?_ (Runs.guard rfl rfl rfl (rfl))
  rintro v111 w ⟨ps, ⟨rfl, rfl⟩, hS⟩
  try rw [List.nil_append] at hS
  refine RL.q (Qt.eqlN rfl rfl) ?_ (Runs.guard rfl rfl rfl (rfl))
  refine RL.q ((by first | exact Qt.pickT rfl (by assumption) rfl | exact Qt.pickF rfl (by assumption) rfl | exact Qt.pickT rfl rfl rfl | exact Qt.pickF rfl rfl rfl | exact Qt.pickT rfl (by simp) rfl)) ?_
  refine RL.q (Qt.mv rfl) ?_
  -- stops: guard
  by_cases h1 : n < 1
  · have hb : decide (n < 1) = true := by simpa using h1
    refine RL.q (Qt.mv rfl) ?_ (Runs.guard rfl rfl rfl (rfl))
    refine RL.q (Qt.mv rfl) ?_ (Runs.guard rfl rfl rfl (rfl))
    -- stops: op call
    refine RL.e (Ef.call hS (rdNewN n most (.inl h1)) rfl rfl Try.call67 [] [0, 1, 2, 3, 4, 5, 6, 7] (by decide) rfl rfl) ?_ (Runs.guard rfl rfl rfl (rfl))
    rintro v117 w ⟨ps, ⟨rfl, rfl⟩, hS⟩
    try rw [List.nil_append] at hS
    refine RL.q (Qt.eqlN rfl rfl) ?_ (Runs.guard rfl rfl rfl (rfl))
    refine RL.q (Qt.mv rfl) ?_ (Runs.guard rfl rfl rfl (rfl))
    refine RL.q (Qt.lss rfl rfl) ?_ (Runs.guard rfl rfl rfl (rfl))
    refine RL.q (Qt.mv rfl) ?_ (Runs.guard rfl rfl rfl (rfl))
    refine RL.s (Skips.guard rfl rfl rfl (hb)) ?_
    refine RL.s (Skips.guard rfl rfl rfl (hb)) ?_
    refine RL.q ((by first | exact Qt.pickT rfl (by assumption) rfl | exact Qt.pickF rfl (by assumption) rfl | exact Qt.pickT rfl rfl rfl | exact Qt.pickF rfl rfl rfl | exact Qt.pickT rfl (by simp) rfl)) ?_ (Runs.guard rfl rfl rfl (rfl))
    refine RL.q (Qt.mv rfl) ?_ (Runs.guard rfl rfl rfl (rfl))
    refine RL.s (Skips.guard rfl rfl rfl (rfl)) ?_
    refine RL.s (Skips.guard rfl rfl rfl (rfl)) ?_
    refine RL.q ((by first | exact Qt.pickT rfl (by assumption) rfl | exact Qt.pickF rfl (by assumption) rfl | exact Qt.pickT rfl rfl rfl | exact Qt.pickF rfl rfl rfl | exact Qt.pickT rfl (by simp) rfl)) ?_ (Runs.guard rfl rfl rfl (rfl))
    refine RL.q (Qt.mv rfl) ?_ (Runs.guard rfl rfl rfl (rfl))
    refine RL.s (Skips.guard rfl rfl rfl (rfl)) ?_
    refine RL.s (Skips.guard rfl rfl rfl (rfl)) ?_
    refine RL.s (Skips.guard rfl rfl rfl (rfl)) ?_
    refine RL.q ((by first | exact Qt.pickT rfl (by assumption) rfl | exact Qt.pickF rfl (by assumption) rfl | exact Qt.pickT rfl rfl rfl | exact Qt.pickF rfl rfl rfl | exact Qt.pickT rfl (by simp) rfl)) ?_ (Runs.guard rfl rfl rfl (rfl))
    refine RL.q (Qt.eqlB rfl rfl) ?_ (Runs.guard rfl rfl rfl (rfl))
    refine RL.q ((by first | exact Qt.pickT rfl (by assumption) rfl | exact Qt.pickF rfl (by assumption) rfl | exact Qt.pickT rfl rfl rfl | exact Qt.pickF rfl rfl rfl | exact Qt.pickT rfl (by simp) rfl)) ?_
    refine RL.q (Qt.as rfl) ?_
    refine RL.nil ?_
    refine RE.sqN ?_
    refine RC.ret ?_
    -- stops: end ret
    exact RE.retB rfl ⟨by simp [oneOf], rfl⟩ (hS.pick [6, 7] (by decide) rfl)
  · have hb : decide (n < 1) = false := by simpa using h1
    by_cases h2 : n > 1024
    · have hb2 : decide (n > 1024) = true := by simpa using h2
      refine RL.q (Qt.mv rfl) ?_ (Runs.guard rfl rfl rfl (rfl))
      refine RL.q (Qt.mv rfl) ?_ (Runs.guard rfl rfl rfl (rfl))
      -- stops: op call
      refine RL.e (Ef.call hS (rdNewN n most (.inr (.inl h2))) rfl rfl Try.call67 [] [0, 1, 2, 3, 4, 5, 6, 7] (by decide) rfl rfl) ?_ (Runs.guard rfl rfl rfl (rfl))
      rintro v117 w ⟨ps, ⟨rfl, rfl⟩, hS⟩
      try rw [List.nil_append] at hS
      refine RL.q (Qt.eqlN rfl rfl) ?_ (Runs.guard rfl rfl rfl (rfl))
      refine RL.q (Qt.mv rfl) ?_ (Runs.guard rfl rfl rfl (rfl))
      refine RL.q (Qt.lss rfl rfl) ?_ (Runs.guard rfl rfl rfl (rfl))
      refine RL.q (Qt.mv rfl) ?_ (Runs.guard rfl rfl rfl (rfl))
      refine RL.q (Qt.mv rfl) ?_ (Runs.guard rfl rfl rfl (hb))
      refine RL.q (Qt.gtr rfl rfl) ?_ (Runs.guard rfl rfl rfl (hb))
      refine RL.q ((by first | exact Qt.pickT rfl (by assumption) rfl | exact Qt.pickF rfl (by assumption) rfl | exact Qt.pickT rfl rfl rfl | exact Qt.pickF rfl rfl rfl | exact Qt.pickT rfl (by simp) rfl)) ?_ (Runs.guard rfl rfl rfl (rfl))
      refine RL.q (Qt.mv rfl) ?_ (Runs.guard rfl rfl rfl (rfl))
      refine RL.s (Skips.guard rfl rfl rfl (hb2)) ?_
      refine RL.s (Skips.guard rfl rfl rfl (hb2)) ?_
      refine RL.q ((by first | exact Qt.pickT rfl (by assumption) rfl | exact Qt.pickF rfl (by assumption) rfl | exact Qt.pickT rfl rfl rfl | exact Qt.pickF rfl rfl rfl | exact Qt.pickT rfl (by simp) rfl)) ?_ (Runs.guard rfl rfl rfl (rfl))
      refine RL.q (Qt.mv rfl) ?_ (Runs.guard rfl rfl rfl (rfl))
      refine RL.s (Skips.guard rfl rfl rfl (rfl)) ?_
      refine RL.s (Skips.guard rfl rfl rfl (rfl)) ?_
      refine RL.s (Skips.guard rfl rfl rfl (rfl)) ?_
      refine RL.q ((by first | exact Qt.pickT rfl (by assumption) rfl | exact Qt.pickF rfl (by assumption) rfl | exact Qt.pickT rfl rfl rfl | exact Qt.pickF rfl rfl rfl | exact Qt.pickT rfl (by simp) rfl)) ?_ (Runs.guard rfl rfl rfl (rfl))
      refine RL.q (Qt.eqlB rfl rfl) ?_ (Runs.guard rfl rfl rfl (rfl))
      refine RL.q ((by first | exact Qt.pickT rfl (by assumption) rfl | exact Qt.pickF rfl (by assumption) rfl | exact Qt.pickT rfl rfl rfl | exact Qt.pickF rfl rfl rfl | exact Qt.pickT rfl (by simp) rfl)) ?_
      refine RL.q (Qt.as rfl) ?_
      refine RL.nil ?_
      refine RE.sqN ?_
      refine RC.ret ?_
      -- stops: end ret
      exact RE.retB rfl ⟨by simp [oneOf], rfl⟩ (hS.pick [6, 7] (by decide) rfl)
    · have hb2 : decide (n > 1024) = false := by simpa using h2
      by_cases h3 : most < 1
      · have hb3 : decide (most < 1) = true := by simpa using h3
        refine RL.q (Qt.mv rfl) ?_ (Runs.guard rfl rfl rfl (rfl))
        refine RL.q (Qt.mv rfl) ?_ (Runs.guard rfl rfl rfl (rfl))
        -- stops: op call
        refine RL.e (Ef.call hS (rdNewN n most (.inr (.inr (.inl h3)))) rfl rfl Try.call67 [] [0, 1, 2, 3, 4, 5, 6, 7] (by decide) rfl rfl) ?_ (Runs.guard rfl rfl rfl (rfl))
        rintro v117 w ⟨ps, ⟨rfl, rfl⟩, hS⟩
        try rw [List.nil_append] at hS
        refine RL.q (Qt.eqlN rfl rfl) ?_ (Runs.guard rfl rfl rfl (rfl))
        refine RL.q (Qt.mv rfl) ?_ (Runs.guard rfl rfl rfl (rfl))
        refine RL.q (Qt.lss rfl rfl) ?_ (Runs.guard rfl rfl rfl (rfl))
        refine RL.q (Qt.mv rfl) ?_ (Runs.guard rfl rfl rfl (rfl))
        refine RL.q (Qt.mv rfl) ?_ (Runs.guard rfl rfl rfl (hb))
        refine RL.q (Qt.gtr rfl rfl) ?_ (Runs.guard rfl rfl rfl (hb))
        refine RL.q ((by first | exact Qt.pickT rfl (by assumption) rfl | exact Qt.pickF rfl (by assumption) rfl | exact Qt.pickT rfl rfl rfl | exact Qt.pickF rfl rfl rfl | exact Qt.pickT rfl (by simp) rfl)) ?_ (Runs.guard rfl rfl rfl (rfl))
        refine RL.q (Qt.mv rfl) ?_ (Runs.guard rfl rfl rfl (rfl))
        refine RL.q (Qt.mv rfl) ?_ (Runs.guard rfl rfl rfl (hb2))
        refine RL.q (Qt.lss rfl rfl) ?_ (Runs.guard rfl rfl rfl (hb2))
        refine RL.q ((by first | exact Qt.pickT rfl (by assumption) rfl | exact Qt.pickF rfl (by assumption) rfl | exact Qt.pickT rfl rfl rfl | exact Qt.pickF rfl rfl rfl | exact Qt.pickT rfl (by simp) rfl)) ?_ (Runs.guard rfl rfl rfl (rfl))
        refine RL.q (Qt.mv rfl) ?_ (Runs.guard rfl rfl rfl (rfl))
        refine RL.s (Skips.guard rfl rfl rfl (hb3)) ?_
        refine RL.s (Skips.guard rfl rfl rfl (hb3)) ?_
        refine RL.s (Skips.guard rfl rfl rfl (hb3)) ?_
        refine RL.q ((by first | exact Qt.pickT rfl (by assumption) rfl | exact Qt.pickF rfl (by assumption) rfl | exact Qt.pickT rfl rfl rfl | exact Qt.pickF rfl rfl rfl | exact Qt.pickT rfl (by simp) rfl)) ?_ (Runs.guard rfl rfl rfl (rfl))
        refine RL.q (Qt.eqlB rfl rfl) ?_ (Runs.guard rfl rfl rfl (rfl))
        refine RL.q ((by first | exact Qt.pickT rfl (by assumption) rfl | exact Qt.pickF rfl (by assumption) rfl | exact Qt.pickT rfl rfl rfl | exact Qt.pickF rfl rfl rfl | exact Qt.pickT rfl (by simp) rfl)) ?_
        refine RL.q (Qt.as rfl) ?_
        refine RL.nil ?_
        refine RE.sqN ?_
        refine RC.ret ?_
        -- stops: end ret
        exact RE.retB rfl ⟨by simp [oneOf], rfl⟩ (hS.pick [6, 7] (by decide) rfl)
      · have hb3 : decide (most < 1) = false := by simpa using h3
        by_cases h4 : most > n
        · skip
          refine RL.q (Qt.mv rfl) ?_ (Runs.guard rfl rfl rfl (rfl))
          refine RL.q (Qt.mv rfl) ?_ (Runs.guard rfl rfl rfl (rfl))
          -- stops: op call
          refine RL.e (Ef.call hS (rdNewN n most (.inr (.inr (.inr h4)))) rfl rfl Try.call67 [] [0, 1, 2, 3, 4, 5, 6, 7] (by decide) rfl rfl) ?_ (Runs.guard rfl rfl rfl (rfl))
          rintro v117 w ⟨ps, ⟨rfl, rfl⟩, hS⟩
          try rw [List.nil_append] at hS
          refine RL.q (Qt.eqlN rfl rfl) ?_ (Runs.guard rfl rfl rfl (rfl))
          refine RL.q (Qt.mv rfl) ?_ (Runs.guard rfl rfl rfl (rfl))
          refine RL.q (Qt.lss rfl rfl) ?_ (Runs.guard rfl rfl rfl (rfl))
          refine RL.q (Qt.mv rfl) ?_ (Runs.guard rfl rfl rfl (rfl))
          refine RL.q (Qt.mv rfl) ?_ (Runs.guard rfl rfl rfl (hb))
          refine RL.q (Qt.gtr rfl rfl) ?_ (Runs.guard rfl rfl rfl (hb))
          refine RL.q ((by first | exact Qt.pickT rfl (by assumption) rfl | exact Qt.pickF rfl (by assumption) rfl | exact Qt.pickT rfl rfl rfl | exact Qt.pickF rfl rfl rfl | exact Qt.pickT rfl (by simp) rfl)) ?_ (Runs.guard rfl rfl rfl (rfl))
          refine RL.q (Qt.mv rfl) ?_ (Runs.guard rfl rfl rfl (rfl))
          refine RL.q (Qt.mv rfl) ?_ (Runs.guard rfl rfl rfl (hb2))
          refine RL.q (Qt.lss rfl rfl) ?_ (Runs.guard rfl rfl rfl (hb2))
          refine RL.q ((by first | exact Qt.pickT rfl (by assumption) rfl | exact Qt.pickF rfl (by assumption) rfl | exact Qt.pickT rfl rfl rfl | exact Qt.pickF rfl rfl rfl | exact Qt.pickT rfl (by simp) rfl)) ?_ (Runs.guard rfl rfl rfl (rfl))
          refine RL.q (Qt.mv rfl) ?_ (Runs.guard rfl rfl rfl (rfl))
          refine RL.q (Qt.mv rfl) ?_ (Runs.guard rfl rfl rfl (hb3))
          refine RL.q (Qt.mv rfl) ?_ (Runs.guard rfl rfl rfl (hb3))
          refine RL.q (Qt.gtr rfl rfl) ?_ (Runs.guard rfl rfl rfl (hb3))
          refine RL.q ((by first | exact Qt.pickT rfl (by assumption) rfl | exact Qt.pickF rfl (by assumption) rfl | exact Qt.pickT rfl rfl rfl | exact Qt.pickF rfl rfl rfl | exact Qt.pickT rfl (by simp) rfl)) ?_ (Runs.guard rfl rfl rfl (rfl))
          refine RL.q (Qt.eqlB rfl rfl) ?_ (Runs.guard rfl rfl rfl (rfl))
          refine RL.q ((by first | exact Qt.pickT rfl (by assumption) rfl | exact Qt.pickF rfl (by assumption) rfl | exact Qt.pickT rfl rfl rfl | exact Qt.pickF rfl rfl rfl | exact Qt.pickT rfl (by simp) rfl)) ?_
          refine RL.q (Qt.as rfl) ?_
          refine RL.nil ?_
          refine RE.sqN ?_
          refine RC.ret ?_
          -- stops: end ret
          exact RE.retB rfl ⟨by simp [oneOf, h4], rfl⟩ (hS.pick [6, 7] (by decide) rfl)
        · skip
          refine RL.q (Qt.mv rfl) ?_ (Runs.guard rfl rfl rfl (rfl))
          refine RL.q (Qt.mv rfl) ?_ (Runs.guard rfl rfl rfl (rfl))
          -- stops: op call
          refine RL.e (Ef.call hS (rdNew n most (by omega) (by omega) (by omega) (by omega)) rfl rfl Try.call67 [] [0, 1, 2, 3, 4, 5, 6, 7] (by decide) rfl rfl) ?_ (Runs.guard rfl rfl rfl (rfl))
          rintro v117 w ⟨ps, ⟨⟨b', rfl⟩, rfl⟩, hS⟩
          refine RL.q (Qt.eqlN rfl rfl) ?_ (Runs.guard rfl rfl rfl (rfl))
          refine RL.q (Qt.mv rfl) ?_ (Runs.guard rfl rfl rfl (rfl))
          refine RL.q (Qt.lss rfl rfl) ?_ (Runs.guard rfl rfl rfl (rfl))
          refine RL.q (Qt.mv rfl) ?_ (Runs.guard rfl rfl rfl (rfl))
          refine RL.q (Qt.mv rfl) ?_ (Runs.guard rfl rfl rfl (hb))
          refine RL.q (Qt.gtr rfl rfl) ?_ (Runs.guard rfl rfl rfl (hb))
          refine RL.q ((by first | exact Qt.pickT rfl (by assumption) rfl | exact Qt.pickF rfl (by assumption) rfl | exact Qt.pickT rfl rfl rfl | exact Qt.pickF rfl rfl rfl | exact Qt.pickT rfl (by simp) rfl)) ?_ (Runs.guard rfl rfl rfl (rfl))
          refine RL.q (Qt.mv rfl) ?_ (Runs.guard rfl rfl rfl (rfl))
          refine RL.q (Qt.mv rfl) ?_ (Runs.guard rfl rfl rfl (hb2))
          refine RL.q (Qt.lss rfl rfl) ?_ (Runs.guard rfl rfl rfl (hb2))
          refine RL.q ((by first | exact Qt.pickT rfl (by assumption) rfl | exact Qt.pickF rfl (by assumption) rfl | exact Qt.pickT rfl rfl rfl | exact Qt.pickF rfl rfl rfl | exact Qt.pickT rfl (by simp) rfl)) ?_ (Runs.guard rfl rfl rfl (rfl))
          refine RL.q (Qt.mv rfl) ?_ (Runs.guard rfl rfl rfl (rfl))
          refine RL.q (Qt.mv rfl) ?_ (Runs.guard rfl rfl rfl (hb3))
          refine RL.q (Qt.mv rfl) ?_ (Runs.guard rfl rfl rfl (hb3))
          refine RL.q (Qt.gtr rfl rfl) ?_ (Runs.guard rfl rfl rfl (hb3))
          refine RL.q ((by first | exact Qt.pickT rfl (by assumption) rfl | exact Qt.pickF rfl (by assumption) rfl | exact Qt.pickT rfl rfl rfl | exact Qt.pickF rfl rfl rfl | exact Qt.pickT rfl (by simp) rfl)) ?_ (Runs.guard rfl rfl rfl (rfl))
          refine RL.q (Qt.eqlB rfl rfl) ?_ (Runs.guard rfl rfl rfl (rfl))
          refine RL.q ((by first | exact Qt.pickT rfl (by assumption) rfl | exact Qt.pickF rfl (by assumption) rfl | exact Qt.pickT rfl rfl rfl | exact Qt.pickF rfl rfl rfl | exact Qt.pickT rfl (by simp) rfl)) ?_
          refine RL.q (Qt.as rfl) ?_
          refine RL.nil ?_
          refine RE.sqN ?_
          refine RC.ret ?_
          -- stops: end ret
          exact RE.retB rfl ⟨by simp [oneOf, h4], rfl⟩ (hS.pick [7, 8] (by decide) rfl)
end Go.Proofs

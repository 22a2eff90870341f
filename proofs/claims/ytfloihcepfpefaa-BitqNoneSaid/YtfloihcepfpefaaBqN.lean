/- The queue of levels that is nil, sizes that may not be; the law BitqNone answers true. -/
import Derived.Test.YtfloihcepfpefaaBqG
namespace Go.Proofs
open Go Go.Gx
variable {oo : World}

theorem bqMayN (id : Int) (t : Bool) : Ct Try.prog 30 #[.pointer none, .int .i64 id, .bool t] [] (fun v ps => v = .int .i64 1 ∧ ps = []) := by
  refine Ct.enter Try.func30 rfl (Nat.le_of_ble_eq_true rfl) ?_
  intro oo w R hS
  change RC _ _ _ _ _ _ [(0, _), (1, _), (2, _)] _
  refine RC.seq ?_
  refine RC.region rfl ?_
  refine RL.q (Qt.as rfl) ?_
  refine RL.nil ?_
  refine RE.sqN ?_
  refine RC.seq ?_
  refine RC.block ?_
  refine RC.seq ?_
  refine RC.region rfl ?_
  refine RL.q (Qt.mv rfl) ?_
  refine RL.q (Qt.eqlN rfl rfl) ?_
  refine RL.q (Qt.as rfl) ?_
  refine RL.nil ?_
  refine RE.sqN ?_
  -- stops: cond
  refine RC.condT rfl (rfl) ?_
  refine RC.seq ?_
  refine RC.region rfl ?_
  refine RL.q (Qt.as rfl) ?_
  refine RL.nil ?_
  refine RE.sqN ?_
  refine RC.ret ?_
  refine RE.bkR ?_
  refine RE.sqR ?_
  -- stops: end ret
  exact RE.retB rfl ⟨rfl, rfl⟩ hS
theorem bqPushN (lv id : Int) : Ct Try.prog 17 #[.pointer none, .int .u8 lv, .int .i64 id] [] (fun v ps => v = .int .i64 1 ∧ ps = []) := by
  refine Ct.enter Try.func17 rfl (Nat.le_of_ble_eq_true rfl) ?_
  intro oo w R hS
  change RC _ _ _ _ _ _ [(0, _), (1, _), (2, _)] _
  refine RC.seq ?_
  refine RC.region rfl ?_
  refine RL.q (Qt.as rfl) ?_
  refine RL.nil ?_
  refine RE.sqN ?_
  refine RC.seq ?_
  refine RC.seq ?_
  refine RC.region rfl ?_
  refine RL.q (Qt.mv rfl) ?_
  refine RL.q (Qt.mv rfl) ?_
  -- stops: op call
  refine RL.e (Ef.call hS (bqMayN id false) rfl rfl Try.call30 [] [0] (by decide) rfl rfl) ?_
  rintro v11 w ⟨ps, ⟨rfl, rfl⟩, hS⟩
  refine RL.q (Qt.as rfl) ?_
  refine RL.nil ?_
  refine RE.sqN ?_
  refine RC.seq ?_
  refine RC.region rfl ?_
  refine RL.q (Qt.mv rfl) ?_
  refine RL.q (Qt.neq rfl rfl) ?_
  refine RL.nil ?_
  refine RE.sqN ?_
  -- stops: cond
  refine RC.condT rfl (rfl) ?_
  refine RC.seq ?_
  refine RC.region rfl ?_
  refine RL.q (Qt.mv rfl) ?_
  refine RL.q (Qt.as rfl) ?_
  refine RL.nil ?_
  refine RE.sqN ?_
  refine RC.ret ?_
  refine RE.sqR ?_
  -- stops: end ret
  exact RE.retB rfl ⟨rfl, rfl⟩ hS
theorem bqRemoveN (id : Int) : Ct Try.prog 22 #[.pointer none, .int .i64 id] [] (fun v ps => v = .int .i64 1 ∧ ps = []) := by
  refine Ct.enter Try.func22 rfl (Nat.le_of_ble_eq_true rfl) ?_
  intro oo w R hS
  change RC _ _ _ _ _ _ [(0, _), (1, _)] _
  refine RC.seq ?_
  refine RC.region rfl ?_
  refine RL.q (Qt.as rfl) ?_
  refine RL.nil ?_
  refine RE.sqN ?_
  refine RC.seq ?_
  refine RC.seq ?_
  refine RC.region rfl ?_
  refine RL.q (Qt.mv rfl) ?_
  refine RL.q (Qt.mv rfl) ?_
  -- stops: op call
  refine RL.e (Ef.call hS (bqMayN id true) rfl rfl Try.call30 [] [0] (by decide) rfl rfl) ?_
  rintro v9 w ⟨ps, ⟨rfl, rfl⟩, hS⟩
  refine RL.q (Qt.as rfl) ?_
  refine RL.nil ?_
  refine RE.sqN ?_
  refine RC.seq ?_
  refine RC.region rfl ?_
  refine RL.q (Qt.mv rfl) ?_
  refine RL.q (Qt.neq rfl rfl) ?_
  refine RL.nil ?_
  refine RE.sqN ?_
  -- stops: cond
  refine RC.condT rfl (rfl) ?_
  refine RC.seq ?_
  refine RC.region rfl ?_
  refine RL.q (Qt.mv rfl) ?_
  refine RL.q (Qt.as rfl) ?_
  refine RL.nil ?_
  refine RE.sqN ?_
  refine RC.ret ?_
  refine RE.sqR ?_
  -- stops: end ret
  exact RE.retB rfl ⟨rfl, rfl⟩ hS
theorem bqLevelN (id : Int) : Ct Try.prog 21 #[.pointer none, .int .i64 id] [] (fun v ps => v = .tuple #[.int .u8 0, .bool false] ∧ ps = []) := by
  refine Ct.enter Try.func21 rfl (Nat.le_of_ble_eq_true rfl) ?_
  intro oo w R hS
  change RC _ _ _ _ _ _ [(0, _), (1, _)] _
  refine RC.seq ?_
  refine RC.region rfl ?_
  refine RL.q (Qt.as rfl) ?_
  refine RL.q (Qt.as rfl) ?_
  refine RL.nil ?_
  refine RE.sqN ?_
  refine RC.seq ?_
  refine RC.seq ?_
  refine RC.region rfl ?_
  refine RL.q (Qt.mv rfl) ?_
  refine RL.q (Qt.mv rfl) ?_
  -- stops: op call
  refine RL.e (Ef.call hS (bqMayN id true) rfl rfl Try.call30 [] [0] (by decide) rfl rfl) ?_
  rintro v8 w ⟨ps, ⟨rfl, rfl⟩, hS⟩
  refine RL.q (Qt.neq rfl rfl) ?_
  refine RL.nil ?_
  refine RE.sqN ?_
  -- stops: cond
  refine RC.condT rfl (rfl) ?_
  refine RC.seq ?_
  refine RC.region rfl ?_
  refine RL.q (Qt.as rfl) ?_
  refine RL.q (Qt.as rfl) ?_
  refine RL.nil ?_
  refine RE.sqN ?_
  refine RC.ret ?_
  refine RE.sqR ?_
  -- stops: end ret
  exact RE.retB rfl ⟨rfl, rfl⟩ hS
theorem bqLenN : Ct Try.prog 13 #[.pointer none] [] (fun v ps => v = .int .i64 0 ∧ ps = []) := by
  refine Ct.enter Try.func13 rfl (Nat.le_of_ble_eq_true rfl) ?_
  intro oo w R hS
  change RC _ _ _ _ _ _ [(0, _)] _
  refine RC.seq ?_
  refine RC.region rfl ?_
  refine RL.q (Qt.as rfl) ?_
  refine RL.nil ?_
  refine RE.sqN ?_
  refine RC.seq ?_
  refine RC.seq ?_
  refine RC.region rfl ?_
  refine RL.q (Qt.mv rfl) ?_
  refine RL.q (Qt.eqlN rfl rfl) ?_
  refine RL.nil ?_
  refine RE.sqN ?_
  -- stops: cond
  refine RC.condT rfl (rfl) ?_
  refine RC.seq ?_
  refine RC.region rfl ?_
  refine RL.q (Qt.as rfl) ?_
  refine RL.nil ?_
  refine RE.sqN ?_
  refine RC.ret ?_
  refine RE.sqR ?_
  -- stops: end ret
  exact RE.retB rfl ⟨rfl, rfl⟩ hS
theorem bqForkN : Ct Try.prog 24 #[.pointer none] [] (fun v ps => v = .pointer none ∧ ps = []) := by
  refine Ct.enter Try.func24 rfl (Nat.le_of_ble_eq_true rfl) ?_
  intro oo w R hS
  change RC _ _ _ _ _ _ [(0, _)] _
  refine RC.seq ?_
  refine RC.region rfl ?_
  refine RL.q (Qt.as rfl) ?_
  refine RL.nil ?_
  refine RE.sqN ?_
  refine RC.seq ?_
  refine RC.seq ?_
  refine RC.region rfl ?_
  refine RL.q (Qt.mv rfl) ?_
  refine RL.q (Qt.eqlN rfl rfl) ?_
  refine RL.nil ?_
  refine RE.sqN ?_
  -- stops: cond
  refine RC.condT rfl (rfl) ?_
  refine RC.seq ?_
  refine RC.region rfl ?_
  refine RL.q (Qt.as rfl) ?_
  refine RL.nil ?_
  refine RE.sqN ?_
  refine RC.ret ?_
  refine RE.sqR ?_
  -- stops: end ret
  exact RE.retB rfl ⟨rfl, rfl⟩ hS
theorem bqMaskN : Ct Try.prog 15 #[.pointer none] [] (fun v ps => v = wordsV (fun _ => 0) ∧ ps = []) := by
  refine Ct.enter Try.func15 rfl (Nat.le_of_ble_eq_true rfl) ?_
  intro oo w R hS
  change RC _ _ _ _ _ _ [(0, _)] _
  refine RC.seq ?_
  refine RC.region rfl ?_
  refine RL.e (Ef.alloc hS) ?_
  rintro _ w ⟨b2, rfl, hS⟩
  try simp (disch := omega) only [cells_agg'] at hS
  refine RL.nil ?_
  refine RE.sqN ?_
  refine RC.seq ?_
  refine RC.seq ?_
  refine RC.region rfl ?_
  refine RL.q (Qt.mv rfl) ?_
  refine RL.q (Qt.eqlN rfl rfl) ?_
  refine RL.nil ?_
  refine RE.sqN ?_
  -- stops: cond
  refine RC.condT rfl (rfl) ?_
  refine RC.seq ?_
  refine RC.region rfl ?_
  refine RL.q (Qt.bldA) ?_
  first | refine RL.e0 (Ef.st hS 0 rfl rfl rfl (by rfl) (by rfl) (by first | exact Nat.le_of_ble_eq_true rfl | omega | (simp only [Array.size_map]; omega))) ?_ | refine RL.e0 (Ef.st hS 1 rfl rfl rfl (by rfl) (by rfl) (by first | exact Nat.le_of_ble_eq_true rfl | omega | (simp only [Array.size_map]; omega))) ?_
  intro _ w hS
  simp (disch := omega) only [List.set_cons_zero, List.set_cons_succ, cells_agg', Nat.zero_add, wr, List.setIfInBounds_toArray] at hS
  refine RL.nil ?_
  refine RE.sqN ?_
  refine RC.ret ?_
  refine RE.sqR ?_
  -- stops: end ret
  exact RE.retCell hS rfl rfl (k := 0) rfl rfl (Nat.le_of_ble_eq_true rfl) ⟨rfl, rfl⟩ (hS.pick [1] (by decide) rfl)
theorem hiNone {x : Int} (h : IsHi (fun _ => false) x) : x = -1 := by
  rcases h.1 with h | ⟨_, _, h⟩
  · exact h
  · cases h
theorem bqTopN : Ct Try.prog 16 #[.pointer none] [] (fun v ps => v = .tuple #[.int .u8 0, .int .i64 0, .bool false] ∧ ps = []) := by
  refine Ct.enter Try.func16 rfl (Nat.le_of_ble_eq_true rfl) ?_
  intro oo w R hS
  change RC _ _ _ _ _ _ [(0, _)] _
  refine RC.seq ?_
  refine RC.region rfl ?_
  refine RL.q (Qt.as rfl) ?_
  refine RL.q (Qt.as rfl) ?_
  refine RL.q (Qt.as rfl) ?_
  refine RL.nil ?_
  refine RE.sqN ?_
  refine RC.seq ?_
  refine RC.region rfl ?_
  refine RL.q (Qt.mv rfl) ?_
  -- stops: op call
  refine RL.e (Ef.call hS (bqMaskN) rfl rfl Try.call15 [] [0] (by decide) rfl rfl) ?_
  rintro v7 w ⟨ps, ⟨rfl, rfl⟩, hS⟩
  -- stops: op call
  refine RL.e (Ef.call hS (numHighest (fun _ => 0) _ MW.zero) rfl rfl Try.call29 [] [0] (by decide) rfl rfl) ?_
  rintro v8 w ⟨ps, ⟨x, rfl, hx, rfl⟩, hS⟩
  have hx := hiNone hx
  subst hx
  refine RL.q (Qt.as rfl) ?_
  refine RL.nil ?_
  refine RE.sqN ?_
  refine RC.seq ?_
  refine RC.seq ?_
  refine RC.region rfl ?_
  refine RL.q (Qt.mv rfl) ?_
  refine RL.q (Qt.lss rfl rfl) ?_
  refine RL.nil ?_
  refine RE.sqN ?_
  -- stops: cond
  refine RC.condT rfl (rfl) ?_
  refine RC.seq ?_
  refine RC.region rfl ?_
  refine RL.q (Qt.as rfl) ?_
  refine RL.q (Qt.as rfl) ?_
  refine RL.q (Qt.as rfl) ?_
  refine RL.nil ?_
  refine RE.sqN ?_
  refine RC.ret ?_
  refine RE.sqR ?_
  -- stops: end ret
  exact RE.retB rfl ⟨rfl, rfl⟩ hS
theorem bqPopN : Ct Try.prog 14 #[.pointer none] [] (fun v ps => v = .tuple #[.int .u8 0, .int .i64 0, .bool false] ∧ ps = []) := by
  refine Ct.enter Try.func14 rfl (Nat.le_of_ble_eq_true rfl) ?_
  intro oo w R hS
  change RC _ _ _ _ _ _ [(0, _)] _
  refine RC.seq ?_
  refine RC.region rfl ?_
  refine RL.q (Qt.as rfl) ?_
  refine RL.q (Qt.as rfl) ?_
  refine RL.q (Qt.as rfl) ?_
  refine RL.nil ?_
  refine RE.sqN ?_
  refine RC.seq ?_
  refine RC.region rfl ?_
  refine RL.q (Qt.mv rfl) ?_
  -- stops: op call
  refine RL.e (Ef.call hS (bqTopN) rfl rfl Try.call16 [] [0] (by decide) rfl rfl) ?_
  rintro v7 w ⟨ps, ⟨rfl, rfl⟩, hS⟩
  refine RL.q (Qt.mv rfl) ?_
  refine RL.q (Qt.ext rfl rfl) ?_
  refine RL.q (Qt.ext rfl rfl) ?_
  refine RL.q (Qt.ext rfl rfl) ?_
  refine RL.q (Qt.as rfl) ?_
  refine RL.q (Qt.as rfl) ?_
  refine RL.q (Qt.as rfl) ?_
  refine RL.nil ?_
  refine RE.sqN ?_
  refine RC.seq ?_
  refine RC.seq ?_
  refine RC.region rfl ?_
  refine RL.q (Qt.mv rfl) ?_
  refine RL.nil ?_
  refine RE.sqN ?_
  -- stops: cond
  refine RC.condF rfl (rfl) ?_
  refine RC.skip ?_
  refine RE.sqN ?_
  refine RC.seq ?_
  refine RC.region rfl ?_
  refine RL.q (Qt.mv rfl) ?_
  refine RL.q (Qt.mv rfl) ?_
  refine RL.q (Qt.mv rfl) ?_
  refine RL.q (Qt.as rfl) ?_
  refine RL.q (Qt.as rfl) ?_
  refine RL.q (Qt.as rfl) ?_
  refine RL.nil ?_
  refine RE.sqN ?_
  refine RC.ret ?_
  -- stops: end ret
  exact RE.retB rfl ⟨rfl, rfl⟩ hS
theorem bqAt1N (lv : Int) (b1 b2 : Nat) : It Try.prog 42 #[.pointer (some ⟨b1, 0, none⟩), .pointer (some ⟨b2, 0, none⟩)]
    [pt b1 (.cells #[.pointer none] 23 (0, 0)), pt b2 (.cells #[.int .u8 lv] 5 (0, 0))] [] := by
  refine It.enter Try.func42 rfl (Nat.le_of_ble_eq_true rfl) ?_
  intro oo lY J X w hY hS
  change RC _ _ _ _ _ _ [(0, _), (1, _), (2, _)] _
  refine RC.seq ?_
  refine RC.seq ?_
  refine RC.region rfl ?_
  refine RL.q (Qt.ld rfl (by first | exact hS.at 0 rfl | exact hS.at 1 rfl | exact hS.at 2 rfl) (by first  | rfl)) ?_
  refine RL.q (Qt.eqlN rfl rfl) ?_
  refine RL.nil ?_
  refine RE.sqN ?_
  -- stops: cond
  refine RC.condT rfl (rfl) ?_
  refine RC.ret ?_
  refine RE.sqR ?_
  -- stops: end ret
  exact RE.retI rfl (.inl hS)
set_option maxHeartbeats 1000000 in
theorem bqListN (lv : Int) : Ct Try.prog 18 #[.pointer none, .int .u8 lv] [] (fun v ps => v = .slice none 0 0 ∧ ps = []) := by
  refine Ct.enter Try.func18 rfl (Nat.le_of_ble_eq_true rfl) ?_
  intro oo w R hS
  change RC _ _ _ _ _ _ [(0, _), (1, _)] _
  refine RC.seq ?_
  refine RC.region rfl ?_
  refine RL.q (Qt.as rfl) ?_
  refine RL.nil ?_
  refine RE.sqN ?_
  refine RC.seq ?_
  refine RC.region rfl ?_
  refine RL.e (Ef.alloc hS) ?_
  rintro _ w ⟨b5, rfl, hS⟩
  try simp (disch := omega) only [cells_slice'] at hS
  refine RL.nil ?_
  refine RE.sqN ?_
  refine RC.seq ?_
  refine RC.seq ?_
  refine RC.region rfl ?_
  refine RL.q (Qt.mv rfl) ?_
  refine RL.q (Qt.mv rfl) ?_
  -- stops: op call
  refine RL.e (Ef.call hS (bqAt (.pointer none) lv) rfl rfl Try.call31 [] [0, 1] (by decide) rfl rfl) ?_
  rintro v9 w ⟨ps, ⟨b1, b2, rfl, rfl⟩, hS⟩
  refine RL.nil ?_
  refine RE.sqN ?_
  refine RC.block ?_
  -- stops: rangeFunc
  refine RC.rangeFn hS (bqAt1N lv b1 b2) rfl Try.call42 [0, 1] [2, 3] (by decide) rfl rfl (by simp) (by decide) (fun _ => [pt b5 (.cells #[.slice none 0 0] 41 (0, 0)), R]) rfl (fun _ _ => False) (fun k hk => by simp at hk) ?_ (fun _ _ _ _ h => h.elim)
  · intro b' w hS
    refine RE.bkN ?_
    refine RE.sqN ?_
    refine RC.seq ?_
    refine RC.region rfl ?_
    refine RL.q (Qt.ld rfl (by first | exact hS.at 0 rfl | exact hS.at 1 rfl | exact hS.at 2 rfl | exact hS.at 3 rfl | exact hS.at 4 rfl) (by first  | rfl)) ?_
    refine RL.q (Qt.as rfl) ?_
    refine RL.nil ?_
    refine RE.sqN ?_
    refine RC.ret ?_
    -- stops: end ret
    exact RE.retM hS (k := 4) rfl rfl (ps := []) ⟨rfl, rfl⟩ [3] (by decide) rfl
theorem bqNewN (n : Int) (h : n < 1 ∨ n > 1024) : Ct Try.prog 27 #[.int .i64 n] [] (fun v ps => v = .pointer none ∧ ps = []) := by
  refine Ct.enter Try.func27 rfl (Nat.le_of_ble_eq_true rfl) ?_
  intro oo w R hS
  change RC _ _ _ _ _ _ [(0, _)] _
  refine RC.seq ?_
  refine RC.region rfl ?_
  refine RL.q (Qt.as rfl) ?_
  refine RL.nil ?_
  refine RE.sqN ?_
  refine RC.seq ?_
  refine RC.seq ?_
  refine RC.region rfl ?_
  refine RL.q (Qt.mv rfl) ?_
  refine RL.q (Qt.lss rfl rfl) ?_
  refine RL.q (Qt.mv rfl) ?_
  refine RLG.start 7 false rfl ?_
  refine RLG.q rfl rfl rfl (fun _ => Qt.mv rfl) ?_
  refine RLG.q rfl rfl rfl (fun hg => by (try simp only [decide_eq_false_iff_not] at hg); exact Qt.gtr rfl rfl) ?_
  refine RLG.or rfl rfl ?_
  refine RL.nil ?_
  refine RE.sqN ?_
  -- stops: cond
  refine RC.condT rfl (by simp; omega) ?_
  refine RC.seq ?_
  refine RC.region rfl ?_
  refine RL.q (Qt.as rfl) ?_
  refine RL.nil ?_
  refine RE.sqN ?_
  refine RC.ret ?_
  refine RE.sqR ?_
  -- stops: end ret
  exact RE.retB rfl ⟨rfl, rfl⟩ hS
theorem bqNewP (n : Int) (h0 : 1 ≤ n) (h1 : n ≤ 1024) : Ct Try.prog 27 #[.int .i64 n] [] (fun v ps => ∃ b, v = .pointer (some ⟨b, 0, none⟩) ∧ ps = [qO v n.toNat []]) := fun oo w R hS =>
  (bqNew n h0 h1 oo w R hS).mono fun e w' ⟨v, ps, he, hp, hS'⟩ => by
    subst hp
    obtain ⟨_, _, b, _, _, _, _, hb, _⟩ := qO_open hS'
    exact ⟨v, _, he, ⟨b, hb, rfl⟩, hS'⟩
end Go.Proofs

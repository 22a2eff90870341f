/- The queue of levels: Len, Level, Mask, Push, Remove. -/
import Derived.Test.YtlicnplclfclcaaBq
namespace Go.Proofs
open Go Go.Gx

set_option maxHeartbeats 1000000 in
theorem bqLen (p : Value) (n : Nat) (l : List RItem) : Ct Try.prog 101 #[p] [qO p n l] (fun v ps => v = .int .i64 l.length ∧ ps = [qO p n l]) := by
  refine Ct.enter Try.func101 rfl (Nat.le_of_ble_eq_true rfl) ?_
  intro oo w R hS
  change RC _ _ _ _ _ _ [(0, _)] _
  obtain ⟨q, W, b, bl, cap, c, cl, rfl, hq, hS⟩ := qO_open hS
  have hS0 := hS
  have hm := hq.qc.many
  refine RC.seq ?_
  refine RC.region rfl ?_
  refine RL.q (Qt.as rfl) ?_
  refine RL.nil ?_
  refine RE.sqN ?_
  refine RC.seq ?_
  refine RC.seq ?_
  refine RC.region rfl ?_
  refine RL.q (Qt.mv rfl) ?_
  refine RL.q (Qt.eqlN rfl rfl) ?_
  refine RL.nil ?_
  refine RE.sqN ?_
  -- stops: cond
  refine RC.condF rfl (rfl) ?_
  refine RC.skip ?_
  refine RE.sqN ?_
  refine RC.seq ?_
  refine RC.region rfl ?_
  refine RL.q (Qt.mv rfl) ?_
  refine RL.q (Qt.nil rfl) ?_
  refine RL.q (Qt.fld rfl) ?_
  refine RL.q (Qt.ld rfl (by first | exact hS.at 0 rfl | exact hS.at 1 rfl | exact hS.at 2 rfl) (by first | exact hm | rfl)) ?_
  refine RL.q (Qt.as rfl) ?_
  refine RL.nil ?_
  refine RE.sqN ?_
  refine RC.ret ?_
  -- stops: end ret
  exact RE.retB rfl ⟨by rw [← hq.ri.many]; rfl, rfl⟩ (qO_shut hq hS0)

set_option maxHeartbeats 1000000 in
theorem bqLevel (p : Value) (n : Nat) (l : List RItem) (id : Int) : Ct Try.prog 106 #[p, .int .i64 id] [qO p n l] (fun v ps => v = rLevel l id ∧ ps = [qO p n l]) := by
  refine Ct.enter Try.func106 rfl (Nat.le_of_ble_eq_true rfl) ?_
  intro oo w R hS
  change RC _ _ _ _ _ _ [(0, _), (1, _)] _
  refine RC.seq ?_
  refine RC.region rfl ?_
  refine RL.q (Qt.as rfl) ?_
  refine RL.q (Qt.as rfl) ?_
  refine RL.nil ?_
  refine RE.sqN ?_
  refine RC.seq ?_
  refine RC.seq ?_
  refine RC.region rfl ?_
  refine RL.q (Qt.mv rfl) ?_
  refine RL.q (Qt.mv rfl) ?_
  -- stops: op call
  refine RL.e (Ef.call hS (bqMay p n l id true) rfl rfl Try.call136 [0] [1] (by decide) rfl rfl) ?_
  rintro v8 w ⟨ps, ⟨rfl, rfl⟩, hS⟩
  refine RL.q (Qt.neq rfl rfl) ?_
  refine RL.nil ?_
  refine RE.sqN ?_
  -- stops: cond
  refine RC.cond rfl (fun h => ?_) (fun h => ?_)
  · refine RC.seq ?_
    refine RC.region rfl ?_
    refine RL.q (Qt.as rfl) ?_
    refine RL.q (Qt.as rfl) ?_
    refine RL.nil ?_
    refine RE.sqN ?_
    refine RC.ret ?_
    refine RE.sqR ?_
    -- stops: end ret
    have h : ¬ mayErr l n id true = 0 := of_decide_eq_true h
    rw [mayErr_rem] at h
    obtain ⟨q, W, b, bl, cap, c, cl, rfl, hq, hS⟩ := qO_open hS
    have h1 : rat l id < 0 := by
      rcases Int.lt_or_le (rat l id) 0 with h1 | h1
      · exact h1
      · obtain ⟨x, hx, rfl⟩ := List.mem_map.1 (rat_mem.1 h1)
        have := (hq.ri.range x hx).1
        exfalso; apply h
        rw [rRemErr, if_neg (by omega), if_neg (by omega)]
    exact RE.retB rfl ⟨by rw [rLevel, if_pos h1]; rfl, rfl⟩ (qO_shut hq hS)
  · skip
    have h : mayErr l n id true = 0 := by simpa using h
    rw [mayErr_rem, rRemErr] at h
    have h0 : ¬ (id < 0 ∨ id ≥ n) := fun e => by rw [if_pos e] at h; omega
    rw [if_neg h0] at h
    have h1 : ¬ rat l id < 0 := fun e => by rw [if_pos e] at h; omega
    obtain ⟨q, W, b, bl, cap, c, cl, rfl, hq, hS⟩ := qO_open hS
    have hS0 := hS
    refine RC.skip ?_
    refine RE.sqN ?_
    refine RC.seq ?_
    refine RC.region rfl ?_
    refine RL.q (Qt.mv rfl) ?_
    refine RL.q (Qt.nil rfl) ?_
    refine RL.q (Qt.fld rfl) ?_
    refine RL.q (Qt.ld rfl (by first | exact hS.at 0 rfl | exact hS.at 1 rfl | exact hS.at 2 rfl) (by first | exact hq.qc.links | exact hq.la.lv _ (by omega) (by omega) | rfl)) ?_
    refine RL.q (Qt.mv rfl) ?_
    refine RL.q (Qt.ixS rfl rfl (by first | assumption | omega | (dsimp only; omega)) (by first | assumption | omega | (dsimp only; omega))) ?_
    refine RL.q (Qt.fld rfl) ?_
    refine RL.q (Qt.ld rfl (by first | exact hS.at 0 rfl | exact hS.at 1 rfl | exact hS.at 2 rfl) (by first | exact hq.qc.links | exact hq.la.lv _ (by omega) (by omega) | rfl)) ?_
    refine RL.q (Qt.as rfl) ?_
    refine RL.q (Qt.as rfl) ?_
    refine RL.nil ?_
    refine RE.sqN ?_
    refine RC.ret ?_
    -- stops: end ret
    have hl : q.lv id = (rget l (rat l id)).lv := by
      rcases rat_spec l id with ⟨_, g⟩ | ⟨i, hi, g1, g2⟩
      · omega
      · have := hq.ri.level _ (List.getElem_mem hi)
        rw [g2] at this
        rw [this, g1, rget]; simp [hi]
    exact RE.retB rfl ⟨by rw [rLevel, if_neg h1, ← hl]; rfl, rfl⟩ (qO_shut hq hS0)

/-- The answer of Mask. -/
def wordsV (W : Int → Int) : Value := .agg #[.int .u64 (W 0), .int .u64 (W 1), .int .u64 (W 2), .int .u64 (W 3)]
def lvM (l : List RItem) : Int → Bool := fun v => decide (rIds l v ≠ [])
def IsMask (v : Value) (l : List RItem) : Prop := ∃ W, v = wordsV W ∧ MW W (lvM l)

set_option maxHeartbeats 1000000 in
theorem bqMask (p : Value) (n : Nat) (l : List RItem) : Ct Try.prog 143 #[p] [qO p n l] (fun v ps => IsMask v l ∧ ps = [qO p n l]) := by
  refine Ct.enter Try.func143 rfl (Nat.le_of_ble_eq_true rfl) ?_
  intro oo w R hS
  change RC _ _ _ _ _ _ [(0, _)] _
  obtain ⟨q, W, b, bl, cap, c, cl, rfl, hq, hS⟩ := qO_open hS
  have hm := hq.qc.words
  have hsz := hq.qc.size
  refine RC.seq ?_
  refine RC.region rfl ?_
  refine RL.e (Ef.alloc hS) ?_
  rintro _ w ⟨b2, rfl, hS⟩
  try simp (disch := omega) only [cells_agg'] at hS
  refine RL.nil ?_
  refine RE.sqN ?_
  refine RC.seq ?_
  refine RC.seq ?_
  refine RC.region rfl ?_
  refine RL.q (Qt.mv rfl) ?_
  refine RL.q (Qt.eqlN rfl rfl) ?_
  refine RL.nil ?_
  refine RE.sqN ?_
  -- stops: cond
  refine RC.condF rfl (rfl) ?_
  refine RC.skip ?_
  refine RE.sqN ?_
  refine RC.seq ?_
  refine RC.region rfl ?_
  refine RL.q (Qt.mv rfl) ?_
  refine RL.q (Qt.nil rfl) ?_
  refine RL.q (Qt.fld rfl) ?_
  refine RL.q (Qt.ldA rfl (by first | exact hS.at 0 rfl | exact hS.at 1 rfl | exact hS.at 2 rfl | exact hS.at 3 rfl) (by first | exact hm | rfl) (by first | exact Nat.le_of_ble_eq_true rfl | omega | (simp only [Array.size_map]; omega))) ?_
  first | refine RL.e0 (Ef.st hS 0 rfl rfl rfl (by rfl) (by rfl) (by first | exact Nat.le_of_ble_eq_true rfl | omega | (simp only [Array.size_map]; omega))) ?_ | refine RL.e0 (Ef.st hS 1 rfl rfl rfl (by rfl) (by rfl) (by first | exact Nat.le_of_ble_eq_true rfl | omega | (simp only [Array.size_map]; omega))) ?_ | refine RL.e0 (Ef.st hS 2 rfl rfl rfl (by rfl) (by rfl) (by first | exact Nat.le_of_ble_eq_true rfl | omega | (simp only [Array.size_map]; omega))) ?_ | refine RL.e0 (Ef.st hS 3 rfl rfl rfl (by rfl) (by rfl) (by first | exact Nat.le_of_ble_eq_true rfl | omega | (simp only [Array.size_map]; omega))) ?_
  intro _ w hS
  simp (disch := omega) only [List.set_cons_zero, List.set_cons_succ, cells_agg', Nat.zero_add, wr, List.setIfInBounds_toArray] at hS
  refine RL.nil ?_
  refine RE.sqN ?_
  refine RC.ret ?_
  -- stops: end ret
  refine RE.retCell hS rfl rfl (k := 0) rfl rfl (Nat.le_of_ble_eq_true rfl) ⟨⟨W, rfl, ?_⟩, rfl⟩ (qO_shut hq (hS.pick [1, 2, 3] (by decide) rfl))
  exact hq.mw.congr fun v h0 h1 => by
    have := hq.ri.mask v h0 h1
    rw [lvM]
    by_cases e : rIds l v = []
    · rw [e] at this ⊢; simpa using this
    · simpa [e] using this.2 e

set_option maxHeartbeats 2000000 in
theorem bqPush (p : Value) (n : Nat) (l : List RItem) (lv id : Int) (hlv : 0 ≤ lv ∧ lv ≤ 255) : Ct Try.prog 137 #[p, .int .u8 lv, .int .i64 id] [qO p n l] (fun v ps => v = .int .i64 (rPushErr l n id) ∧ ps = [qO p n (rPush l n lv id)]) := by
  refine Ct.enter Try.func137 rfl (Nat.le_of_ble_eq_true rfl) ?_
  intro oo w R hS
  change RC _ _ _ _ _ _ [(0, _), (1, _), (2, _)] _
  refine RC.seq ?_
  refine RC.region rfl ?_
  refine RL.q (Qt.as rfl) ?_
  refine RL.nil ?_
  refine RE.sqN ?_
  refine RC.seq ?_
  refine RC.seq ?_
  refine RC.region rfl ?_
  refine RL.q (Qt.mv rfl) ?_
  refine RL.q (Qt.mv rfl) ?_
  -- stops: op call
  refine RL.e (Ef.call hS (bqMay p n l id false) rfl rfl Try.call136 [0] [1] (by decide) rfl rfl) ?_
  rintro v11 w ⟨ps, ⟨rfl, rfl⟩, hS⟩
  refine RL.q (Qt.as rfl) ?_
  refine RL.nil ?_
  refine RE.sqN ?_
  refine RC.seq ?_
  refine RC.region rfl ?_
  refine RL.q (Qt.mv rfl) ?_
  refine RL.q (Qt.neq rfl rfl) ?_
  refine RL.nil ?_
  refine RE.sqN ?_
  -- stops: cond
  rw [mayErr_push]
  refine RC.cond rfl (fun h => ?_) (fun h => ?_)
  · refine RC.seq ?_
    refine RC.region rfl ?_
    refine RL.q (Qt.mv rfl) ?_
    refine RL.q (Qt.as rfl) ?_
    refine RL.nil ?_
    refine RE.sqN ?_
    refine RC.ret ?_
    refine RE.sqR ?_
    -- stops: end ret
    have h : ¬ rPushErr l n id = 0 := by simpa using h
    exact RE.retB rfl ⟨rfl, by rw [show rPush l n lv id = l by simp [rPush, h]]⟩ hS
  · skip
    have h : rPushErr l n id = 0 := by simpa using h
    have hp : rPush l n lv id = l ++ [⟨id, lv⟩] := by rw [rPush, if_pos h]
    have hin : ¬ (id < 0 ∨ id ≥ n) := fun e => by rw [rPushErr, if_pos e] at h; omega
    have hnew : id ∉ l.map RItem.id := fun e => by rw [rPushErr, if_neg hin, if_pos (rat_mem.2 e)] at h; omega
    rw [h, hp]
    obtain ⟨q, W, b, bl, cap, c, cl, rfl, hq, hS⟩ := qO_open hS
    have hr := hq.ri.push (id := id) hlv.1 hlv.2 (by omega) (by omega) hnew
    have hemp := hq.ri.lastEmpty hlv.1 hlv.2
    have hsz := hq.qc.size
    have hsl := hq.la.size
    have hla := hq.la.setRow (i := id) (by omega) (by omega) (q.last lv) (-1) lv true
    refine RC.skip ?_
    refine RE.sqN ?_
    refine RC.seq ?_
    refine RC.region rfl ?_
    refine RL.q (Qt.mv rfl) ?_
    refine RL.q (Qt.mv rfl) ?_
    refine RL.q (Qt.nil rfl) ?_
    refine RL.q (Qt.fld rfl) ?_
    refine RL.q (Qt.ixA rfl rfl (by first | assumption | omega | (dsimp only; omega)) (by first | assumption | omega | (dsimp only; omega))) ?_
    refine RL.q (Qt.ld rfl (by first | exact hS.at 0 rfl | exact hS.at 1 rfl | exact hS.at 2 rfl) (by first | exact hq.qc.links | exact hq.qc.last _ hlv.1 hlv.2 | rfl)) ?_
    refine RL.q (Qt.as rfl) ?_
    refine RL.nil ?_
    refine RE.sqN ?_
    refine RC.seq ?_
    refine RC.region rfl ?_
    refine RL.q (Qt.mv rfl) ?_
    refine RL.q (Qt.nil rfl) ?_
    refine RL.q (Qt.fld rfl) ?_
    refine RL.q (Qt.ld rfl (by first | exact hS.at 0 rfl | exact hS.at 1 rfl | exact hS.at 2 rfl) (by first | exact hq.qc.links | exact hq.qc.last _ hlv.1 hlv.2 | rfl)) ?_
    refine RL.q (Qt.mv rfl) ?_
    refine RL.q (Qt.mv rfl) ?_
    refine RL.q (Qt.mv rfl) ?_
    refine RL.q (Qt.bldV [.tmp 26, .const (Go.Value.int Go.IntKind.i64 (-1)), .tmp 27, .const (Go.Value.bool true)] rfl rfl (by kernel_rfl)) ?_
    refine RL.q (Qt.ixS rfl rfl (by first | assumption | omega | (dsimp only; omega)) (by first | assumption | omega | (dsimp only; omega))) ?_
    first | refine RL.e0 (Ef.st hS 0 rfl rfl rfl (by rfl) (by rfl) (by first | exact Nat.le_of_ble_eq_true rfl | omega | (simp only [Array.size_map]; omega))) ?_ | refine RL.e0 (Ef.st hS 1 rfl rfl rfl (by rfl) (by rfl) (by first | exact Nat.le_of_ble_eq_true rfl | omega | (simp only [Array.size_map]; omega))) ?_ | refine RL.e0 (Ef.st hS 2 rfl rfl rfl (by rfl) (by rfl) (by first | exact Nat.le_of_ble_eq_true rfl | omega | (simp only [Array.size_map]; omega))) ?_
    intro _ w hS
    simp (disch := omega) only [List.set_cons_zero, List.set_cons_succ, cells_agg', Nat.zero_add, List.set_cons_zero] at hS
    refine RL.nil ?_
    refine RE.sqN ?_
    refine RC.seq ?_
    refine RC.seq ?_
    refine RC.region rfl ?_
    refine RL.q (Qt.mv rfl) ?_
    refine RL.q (Qt.eql rfl rfl) ?_
    refine RL.nil ?_
    refine RE.sqN ?_
    -- stops: cond
    have hlen := hq.ri.lenLe
    have hmany := hq.ri.many
    have hmax := hq.max
    refine RC.cond rfl (fun h2 => ?_) (fun h2 => ?_)
    · skip
      have h2 : q.last lv = -1 := of_decide_eq_true h2
      have hc1 := hq.qc.setFirst hlv.1 hlv.2 id
      have hc2 := hc1.setMask (i := lv / 64) (by omega) (by omega) (orB (W (lv / 64)) (lv % 64))
      have hc3 := hc2.setLast hlv.1 hlv.2 id
      have hc4 := hc3.setMany (q.many + 1)
      have hz1 := hc1.size
      have hz2 := hc2.size
      have hz3 := hc3.size
      refine RC.seq ?_
      refine RC.region rfl ?_
      refine RL.q (Qt.mv rfl) ?_
      refine RL.q (Qt.mv rfl) ?_
      refine RL.q (Qt.mv rfl) ?_
      refine RL.q (Qt.nil rfl) ?_
      refine RL.q (Qt.fld rfl) ?_
      refine RL.q (Qt.ixA rfl rfl (by first | assumption | omega | (dsimp only; omega)) (by first | assumption | omega | (dsimp only; omega))) ?_
      first | refine RL.e0 (Ef.st hS 0 rfl rfl rfl (by rfl) (by rfl) (by first | exact Nat.le_of_ble_eq_true rfl | omega | (simp only [wr_size]; omega))) ?_ | refine RL.e0 (Ef.st hS 1 rfl rfl rfl (by rfl) (by rfl) (by first | exact Nat.le_of_ble_eq_true rfl | omega | (simp only [wr_size]; omega))) ?_ | refine RL.e0 (Ef.st hS 2 rfl rfl rfl (by rfl) (by rfl) (by first | exact Nat.le_of_ble_eq_true rfl | omega | (simp only [wr_size]; omega))) ?_
      intro _ w hS
      simp (disch := omega) only [List.set_cons_zero, cells_int', Nat.zero_add, List.set_cons_zero] at hS
      refine RL.nil ?_
      refine RE.sqN ?_
      refine RC.drawn 14 [0, 1, 2, 3, 4, 5, 6, 7, 8, 9, 10, 11, 12, 13] (Same _) (by kernel_rfl) (by kernel_rfl) Same.drew (fun hh => ?_)
      replace hS := hS.drew
      refine RH.q hh (Calm.sq Calm.body) rfl (by kernel_rfl) (Qt.mv rfl) ?_
      refine RH.q hh (Calm.sq Calm.body) rfl (by kernel_rfl) (Qt.mv rfl) ?_
      refine RH.q hh (Calm.sq Calm.body) rfl (by kernel_rfl) ((by first | exact Qt.quoI rfl rfl (by dsimp only [inK]; omega) (by omega) | exact Qt.quo rfl rfl (by first | decide | omega))) ?_
      refine RH.q hh (Calm.sq Calm.body) rfl (by kernel_rfl) (Qt.nil rfl) ?_
      refine RH.q hh (Calm.sq Calm.body) rfl (by kernel_rfl) (Qt.fld rfl) ?_
      refine RH.q hh (Calm.sq Calm.body) rfl (by kernel_rfl) (Qt.ixA rfl rfl (by first | assumption | omega | (dsimp only; omega)) (by first | assumption | omega | (dsimp only; omega))) ?_
      refine RH.q hh (Calm.sq Calm.body) rfl (by kernel_rfl) (Qt.ld rfl (by first | exact hS.at 0 rfl | exact hS.at 1 rfl | exact hS.at 2 rfl) (by first | exact hc1.mask _ (by omega) (by omega) | exact hc3.many | rfl)) ?_
      refine RH.q hh (Calm.sq Calm.body) rfl (by kernel_rfl) (Qt.mv rfl) ?_
      refine RH.q hh (Calm.sq Calm.body) rfl (by kernel_rfl) ((by first | exact Qt.remI rfl rfl (by omega) | exact Qt.rem rfl rfl (by first | decide | omega))) ?_
      refine RH.q hh (Calm.sq Calm.body) rfl (by kernel_rfl) (Qt.shl rfl rfl (by first | assumption | omega | (dsimp only; omega))) ?_
      refine RH.q hh (Calm.sq Calm.body) rfl (by kernel_rfl) (Qt.or rfl rfl) ?_
      refine RH.q hh (Calm.sq Calm.body) rfl (by kernel_rfl) (Qt.nil rfl) ?_
      refine RH.q hh (Calm.sq Calm.body) rfl (by kernel_rfl) (Qt.fld rfl) ?_
      refine RH.q hh (Calm.sq Calm.body) rfl (by kernel_rfl) (Qt.ixA rfl rfl (by first | assumption | omega | (dsimp only; omega)) (by first | assumption | omega | (dsimp only; omega))) ?_
      refine RH.done hh (by kernel_rfl) ?_
      first | refine RL.e0 (Ef.st hS 0 rfl rfl rfl (by rfl) (by rfl) (by first | exact Nat.le_of_ble_eq_true rfl | omega | (simp only [wr_size]; omega))) ?_ | refine RL.e0 (Ef.st hS 1 rfl rfl rfl (by rfl) (by rfl) (by first | exact Nat.le_of_ble_eq_true rfl | omega | (simp only [wr_size]; omega))) ?_ | refine RL.e0 (Ef.st hS 2 rfl rfl rfl (by rfl) (by rfl) (by first | exact Nat.le_of_ble_eq_true rfl | omega | (simp only [wr_size]; omega))) ?_
      intro _ w hS
      simp (disch := omega) only [List.set_cons_zero, cells_int', Nat.zero_add, List.set_cons_zero] at hS
      refine RL.nil ?_
      refine RE.sqN ?_
      refine RC.seq ?_
      refine RC.region rfl ?_
      refine RL.q (Qt.mv rfl) ?_
      refine RL.q (Qt.mv rfl) ?_
      refine RL.q (Qt.mv rfl) ?_
      refine RL.q (Qt.nil rfl) ?_
      refine RL.q (Qt.fld rfl) ?_
      refine RL.q (Qt.ixA rfl rfl (by first | assumption | omega | (dsimp only; omega)) (by first | assumption | omega | (dsimp only; omega))) ?_
      first | refine RL.e0 (Ef.st hS 0 rfl rfl rfl (by rfl) (by rfl) (by first | exact Nat.le_of_ble_eq_true rfl | omega | (simp only [wr_size]; omega))) ?_ | refine RL.e0 (Ef.st hS 1 rfl rfl rfl (by rfl) (by rfl) (by first | exact Nat.le_of_ble_eq_true rfl | omega | (simp only [wr_size]; omega))) ?_ | refine RL.e0 (Ef.st hS 2 rfl rfl rfl (by rfl) (by rfl) (by first | exact Nat.le_of_ble_eq_true rfl | omega | (simp only [wr_size]; omega))) ?_
      intro _ w hS
      simp (disch := omega) only [List.set_cons_zero, cells_int', Nat.zero_add, List.set_cons_zero] at hS
      refine RL.nil ?_
      refine RE.sqN ?_
      refine RC.seq ?_
      refine RC.region rfl ?_
      refine RL.q (Qt.mv rfl) ?_
      refine RL.q (Qt.nil rfl) ?_
      refine RL.q (Qt.fld rfl) ?_
      refine RL.q (Qt.ld rfl (by first | exact hS.at 0 rfl | exact hS.at 1 rfl | exact hS.at 2 rfl) (by first | exact hc1.mask _ (by omega) (by omega) | exact hc3.many | rfl)) ?_
      refine RL.q ((by first | exact Qt.addI rfl rfl (by dsimp only [inK]; omega) | exact Qt.add rfl rfl)) ?_
      refine RL.q (Qt.nil rfl) ?_
      refine RL.q (Qt.fld rfl) ?_
      first | refine RL.e0 (Ef.st hS 0 rfl rfl rfl (by rfl) (by rfl) (by first | exact Nat.le_of_ble_eq_true rfl | omega | (simp only [wr_size]; omega))) ?_ | refine RL.e0 (Ef.st hS 1 rfl rfl rfl (by rfl) (by rfl) (by first | exact Nat.le_of_ble_eq_true rfl | omega | (simp only [wr_size]; omega))) ?_ | refine RL.e0 (Ef.st hS 2 rfl rfl rfl (by rfl) (by rfl) (by first | exact Nat.le_of_ble_eq_true rfl | omega | (simp only [wr_size]; omega))) ?_
      intro _ w hS
      simp (disch := omega) only [List.set_cons_zero, cells_int', Nat.zero_add, List.set_cons_zero] at hS
      refine RL.nil ?_
      refine RE.sqN ?_
      refine RC.seq ?_
      refine RC.region rfl ?_
      refine RL.q (Qt.as rfl) ?_
      refine RL.nil ?_
      refine RE.sqN ?_
      refine RC.ret ?_
      -- stops: end ret
      refine RE.retB rfl ⟨rfl, rfl⟩ (qO_shut (cap := cap) (q := q.push lv id) (W := upd W (lv / 64) (orB (W (lv / 64)) (lv % 64))) ⟨hr, ?_, hq.pos, hq.max, ?_, ?_⟩ hS)
      · exact (show (q.push lv id).mask = upd q.mask lv true from if_pos h2) ▸ hq.mw.or hlv.1 hlv.2
      · rw [show (q.push lv id).first = upd q.first lv id from if_pos h2]; exact hc4
      · rw [show (q.push lv id).behind = upd q.behind id (-1) from if_pos h2]; exact hla
    · skip
      have h2 : ¬ q.last lv = -1 := of_decide_eq_false h2
      have hlast : 0 ≤ q.last lv ∧ q.last lv < n := by
        obtain ⟨_, _, g⟩ := hq.ri.seg lv hlv.1 hlv.2
        rw [g]
        exact hq.ri.ids_nonneg (last_mem fun e => h2 (hemp.2 e))
      have hla2 := hla.setBehind hlast.1 hlast.2 id
      have hc3 := hq.qc.setLast hlv.1 hlv.2 id
      have hc4 := hc3.setMany (q.many + 1)
      have hz3 := hc3.size
      have hz4 := hla.size
      have hz5 := hla2.size
      refine RC.region rfl ?_
      refine RL.q (Qt.mv rfl) ?_
      refine RL.q (Qt.nil rfl) ?_
      refine RL.q (Qt.fld rfl) ?_
      refine RL.q (Qt.ld rfl (by first | exact hS.at 0 rfl | exact hS.at 1 rfl | exact hS.at 2 rfl) (by first | exact hq.qc.links | exact hc3.many | rfl)) ?_
      refine RL.q (Qt.mv rfl) ?_
      refine RL.q (Qt.mv rfl) ?_
      refine RL.q (Qt.ixS rfl rfl (by first | assumption | omega | (dsimp only; omega)) (by first | assumption | omega | (dsimp only; omega))) ?_
      refine RL.q (Qt.fld rfl) ?_
      first | refine RL.e0 (Ef.st hS 0 rfl rfl rfl (by rfl) (by rfl) (by first | exact Nat.le_of_ble_eq_true rfl | omega | (simp only [Array.size_map]; omega))) ?_ | refine RL.e0 (Ef.st hS 1 rfl rfl rfl (by rfl) (by rfl) (by first | exact Nat.le_of_ble_eq_true rfl | omega | (simp only [Array.size_map]; omega))) ?_ | refine RL.e0 (Ef.st hS 2 rfl rfl rfl (by rfl) (by rfl) (by first | exact Nat.le_of_ble_eq_true rfl | omega | (simp only [Array.size_map]; omega))) ?_
      intro _ w hS
      simp (disch := omega) only [List.set_cons_zero, List.set_cons_succ, cells_int', Nat.zero_add, List.set_cons_zero] at hS
      refine RL.nil ?_
      refine RE.sqN ?_
      refine RC.seq ?_
      refine RC.region rfl ?_
      refine RL.q (Qt.mv rfl) ?_
      refine RL.q (Qt.mv rfl) ?_
      refine RL.q (Qt.mv rfl) ?_
      refine RL.q (Qt.nil rfl) ?_
      refine RL.q (Qt.fld rfl) ?_
      refine RL.q (Qt.ixA rfl rfl (by first | assumption | omega | (dsimp only; omega)) (by first | assumption | omega | (dsimp only; omega))) ?_
      first | refine RL.e0 (Ef.st hS 0 rfl rfl rfl (by rfl) (by rfl) (by first | exact Nat.le_of_ble_eq_true rfl | omega | (simp only [Array.size_map]; omega))) ?_ | refine RL.e0 (Ef.st hS 1 rfl rfl rfl (by rfl) (by rfl) (by first | exact Nat.le_of_ble_eq_true rfl | omega | (simp only [Array.size_map]; omega))) ?_ | refine RL.e0 (Ef.st hS 2 rfl rfl rfl (by rfl) (by rfl) (by first | exact Nat.le_of_ble_eq_true rfl | omega | (simp only [Array.size_map]; omega))) ?_
      intro _ w hS
      simp (disch := omega) only [List.set_cons_zero, cells_int', Nat.zero_add, List.set_cons_zero] at hS
      refine RL.nil ?_
      refine RE.sqN ?_
      refine RC.seq ?_
      refine RC.region rfl ?_
      refine RL.q (Qt.mv rfl) ?_
      refine RL.q (Qt.nil rfl) ?_
      refine RL.q (Qt.fld rfl) ?_
      refine RL.q (Qt.ld rfl (by first | exact hS.at 0 rfl | exact hS.at 1 rfl | exact hS.at 2 rfl) (by first | exact hq.qc.links | exact hc3.many | rfl)) ?_
      refine RL.q ((by first | exact Qt.addI rfl rfl (by dsimp only [inK]; omega) | exact Qt.add rfl rfl)) ?_
      refine RL.q (Qt.nil rfl) ?_
      refine RL.q (Qt.fld rfl) ?_
      first | refine RL.e0 (Ef.st hS 0 rfl rfl rfl (by rfl) (by rfl) (by first | exact Nat.le_of_ble_eq_true rfl | omega | (simp only [Array.size_map]; omega))) ?_ | refine RL.e0 (Ef.st hS 1 rfl rfl rfl (by rfl) (by rfl) (by first | exact Nat.le_of_ble_eq_true rfl | omega | (simp only [Array.size_map]; omega))) ?_ | refine RL.e0 (Ef.st hS 2 rfl rfl rfl (by rfl) (by rfl) (by first | exact Nat.le_of_ble_eq_true rfl | omega | (simp only [Array.size_map]; omega))) ?_
      intro _ w hS
      simp (disch := omega) only [List.set_cons_zero, cells_int', Nat.zero_add, List.set_cons_zero] at hS
      refine RL.nil ?_
      refine RE.sqN ?_
      refine RC.seq ?_
      refine RC.region rfl ?_
      refine RL.q (Qt.as rfl) ?_
      refine RL.nil ?_
      refine RE.sqN ?_
      refine RC.ret ?_
      -- stops: end ret
      refine RE.retB rfl ⟨rfl, rfl⟩ (qO_shut (cap := cap) (q := q.push lv id) (W := W) ⟨hr, ?_, hq.pos, hq.max, ?_, ?_⟩ hS)
      · exact (show (q.push lv id).mask = q.mask from if_neg h2) ▸ hq.mw
      · rw [show (q.push lv id).first = q.first from if_neg h2]; exact hc4
      · rw [show (q.push lv id).behind = upd (upd q.behind id (-1)) (q.last lv) id from if_neg h2]; exact hla2

theorem RI.aheadIn {q : BQ} {n : Nat} {l : List RItem} (h : RI q n l) {y : RItem} (hy : y ∈ l) : (q.ahead y.id = -1 ∨ (0 ≤ q.ahead y.id ∧ q.ahead y.id < n)) ∧ (q.behind y.id = -1 ∨ (0 ≤ q.behind y.id ∧ q.behind y.id < n)) := by
  obtain ⟨_, h0, h1⟩ := h.range y hy
  obtain ⟨A, B, hAB⟩ := List.append_of_mem (mem_rIds.2 ⟨y, hy, rfl, rfl⟩ : y.id ∈ rIds l y.lv)
  obtain ⟨s1, _, _⟩ := h.seg y.lv h0 h1
  rw [hAB] at s1
  obtain ⟨_, ha, hb, _⟩ := Seg.append.1 s1
  rw [ha, hb]
  constructor
  · rcases List.eq_nil_or_concat A with h3 | ⟨t, e, h3⟩
    · subst h3; exact .inl rfl
    · subst h3
      refine .inr ?_
      rw [List.concat_eq_append, last_snoc]
      exact h.ids_nonneg (v := y.lv) (by rw [hAB]; simp)
  · cases B with
    | nil => exact .inl rfl
    | cons b t => exact .inr (h.ids_nonneg (v := y.lv) (by rw [hAB]; simp))

set_option maxHeartbeats 4000000 in
theorem bqRemove (p : Value) (n : Nat) (l : List RItem) (id : Int) : Ct Try.prog 134 #[p, .int .i64 id] [qO p n l] (fun v ps => v = .int .i64 (rRemErr l n id) ∧ ps = [qO p n (rRem l n id)]) := by
  refine Ct.enter Try.func134 rfl (Nat.le_of_ble_eq_true rfl) ?_
  intro oo w R hS
  change RC _ _ _ _ _ _ [(0, _), (1, _)] _
  refine RC.seq ?_
  refine RC.region rfl ?_
  refine RL.q (Qt.as rfl) ?_
  refine RL.nil ?_
  refine RE.sqN ?_
  refine RC.seq ?_
  refine RC.seq ?_
  refine RC.region rfl ?_
  refine RL.q (Qt.mv rfl) ?_
  refine RL.q (Qt.mv rfl) ?_
  -- stops: op call
  refine RL.e (Ef.call hS (bqMay p n l id true) rfl rfl Try.call136 [0] [1] (by decide) rfl rfl) ?_
  rintro v9 w ⟨ps, ⟨rfl, rfl⟩, hS⟩
  refine RL.q (Qt.as rfl) ?_
  refine RL.nil ?_
  refine RE.sqN ?_
  refine RC.seq ?_
  refine RC.region rfl ?_
  refine RL.q (Qt.mv rfl) ?_
  refine RL.q (Qt.neq rfl rfl) ?_
  refine RL.nil ?_
  refine RE.sqN ?_
  -- stops: cond
  rw [mayErr_rem]
  refine RC.cond rfl (fun h => ?_) (fun h => ?_)
  · refine RC.seq ?_
    refine RC.region rfl ?_
    refine RL.q (Qt.mv rfl) ?_
    refine RL.q (Qt.as rfl) ?_
    refine RL.nil ?_
    refine RE.sqN ?_
    refine RC.ret ?_
    refine RE.sqR ?_
    -- stops: end ret
    have h : ¬ rRemErr l n id = 0 := by simpa using h
    exact RE.retB rfl ⟨rfl, by rw [show rRem l n id = l by simp [rRem, h]]⟩ hS
  · skip
    have h : rRemErr l n id = 0 := by simpa using h
    have hin : ¬ (id < 0 ∨ id ≥ n) := fun e => by rw [rRemErr, if_pos e] at h; omega
    have hat : ¬ rat l id < 0 := fun e => by rw [rRemErr, if_neg hin, if_pos e] at h; omega
    obtain ⟨q, W, b, bl, cap, c, cl, rfl, hq, hS⟩ := qO_open hS
    have hp : rRem l n id = rWithout l id := by rw [rRem, if_pos h]; exact rat_out hq.ri.nodup (by omega)
    rw [h, hp]
    obtain ⟨y, hy, rfl⟩ := List.mem_map.1 (rat_mem.1 (show 0 ≤ rat l id by omega))
    have hr := hq.ri.rem hy
    have hlev := hq.ri.level y hy
    obtain ⟨_, hlv⟩ := hq.ri.range y hy
    rw [← hlev] at hlv
    obtain ⟨hra, hrb⟩ := hq.ri.aheadIn hy
    have hsz := hq.qc.size
    have hsl := hq.la.size
    have hlen := hq.ri.lenLe
    have hmany := hq.ri.many
    have hmax := hq.max
    have hrow := hq.la.row (i := y.id) (by omega) (by omega)
    refine RC.skip ?_
    refine RE.sqN ?_
    refine RC.seq ?_
    refine RC.region rfl ?_
    refine RL.q (Qt.mv rfl) ?_
    refine RL.q (Qt.nil rfl) ?_
    refine RL.q (Qt.fld rfl) ?_
    refine RL.q (Qt.ld rfl (by first | exact hS.at 0 rfl | exact hS.at 1 rfl | exact hS.at 2 rfl) (by first | exact hq.qc.links | rfl)) ?_
    refine RL.q (Qt.mv rfl) ?_
    refine RL.q (Qt.ixS rfl rfl (by first | assumption | omega | (dsimp only; omega)) (by first | assumption | omega | (dsimp only; omega))) ?_
    refine RL.q (Qt.ldA rfl (by first | exact hS.at 0 rfl | exact hS.at 1 rfl | exact hS.at 2 rfl) (by first | exact hrow | rfl) (by first | exact Nat.le_of_ble_eq_true rfl | omega | (simp only [wr_size]; omega))) ?_
    refine RL.e (Ef.alloc hS) ?_
    rintro _ w ⟨b6, rfl, hS⟩
    try simp (disch := omega) only [cells_agg'] at hS
    first | refine RL.e0 (Ef.st hS 0 rfl rfl rfl (by rfl) (by rfl) (by first | exact Nat.le_of_ble_eq_true rfl | omega | (simp only [wr_size]; omega))) ?_ | refine RL.e0 (Ef.st hS 1 rfl rfl rfl (by rfl) (by rfl) (by first | exact Nat.le_of_ble_eq_true rfl | omega | (simp only [wr_size]; omega))) ?_ | refine RL.e0 (Ef.st hS 2 rfl rfl rfl (by rfl) (by rfl) (by first | exact Nat.le_of_ble_eq_true rfl | omega | (simp only [wr_size]; omega))) ?_ | refine RL.e0 (Ef.st hS 3 rfl rfl rfl (by rfl) (by rfl) (by first | exact Nat.le_of_ble_eq_true rfl | omega | (simp only [wr_size]; omega))) ?_
    intro _ w hS
    simp (disch := omega) only [List.set_cons_zero, List.set_cons_succ, cells_agg', Nat.zero_add, wr, List.setIfInBounds_toArray] at hS
    refine RL.nil ?_
    refine RE.sqN ?_
    refine RC.seq ?_
    refine RC.seq ?_
    refine RC.region rfl ?_
    refine RL.q (Qt.fld rfl) ?_
    refine RL.q (Qt.ld rfl (by first | exact hS.at 0 rfl | exact hS.at 1 rfl | exact hS.at 2 rfl | exact hS.at 3 rfl) (by first | exact hq.qc.links | rfl)) ?_
    refine RL.q (Qt.eql rfl rfl) ?_
    refine RL.nil ?_
    refine RE.sqN ?_
    -- stops: cond
    have hpos : 0 < l.length := List.length_pos_of_mem hy
    refine RC.cond rfl (fun h2 => ?_) (fun h2 => ?_)
    · skip
      have h2 : q.ahead y.id = -1 := of_decide_eq_true h2
      have hc1 := hq.qc.setFirst hlv.1 hlv.2 (q.behind y.id)
      have hl1 := hq.la
      refine RC.drawn 8 [0, 1, 2, 3, 4, 5, 6, 7] (Same _) (by kernel_rfl) (by kernel_rfl) Same.drew (fun hh => ?_)
      replace hS := hS.drew
      refine RH.q hh (Calm.sq Calm.body) rfl (by kernel_rfl) (Qt.mv rfl) ?_
      refine RH.q hh (Calm.sq Calm.body) rfl (by kernel_rfl) (Qt.fld rfl) ?_
      refine RH.q hh (Calm.sq Calm.body) rfl (by kernel_rfl) (Qt.ld rfl (by first | exact hS.at 0 rfl | exact hS.at 1 rfl | exact hS.at 2 rfl | exact hS.at 3 rfl) (by first | exact hq.qc.links | rfl)) ?_
      refine RH.q hh (Calm.sq Calm.body) rfl (by kernel_rfl) (Qt.fld rfl) ?_
      refine RH.q hh (Calm.sq Calm.body) rfl (by kernel_rfl) (Qt.ld rfl (by first | exact hS.at 0 rfl | exact hS.at 1 rfl | exact hS.at 2 rfl | exact hS.at 3 rfl) (by first | exact hq.qc.links | rfl)) ?_
      refine RH.q hh (Calm.sq Calm.body) rfl (by kernel_rfl) (Qt.nil rfl) ?_
      refine RH.q hh (Calm.sq Calm.body) rfl (by kernel_rfl) (Qt.fld rfl) ?_
      refine RH.q hh (Calm.sq Calm.body) rfl (by kernel_rfl) (Qt.ixA rfl rfl (by first | assumption | omega | (dsimp only; omega)) (by first | assumption | omega | (dsimp only; omega))) ?_
      refine RH.done hh (by kernel_rfl) ?_
      first | refine RL.e0 (Ef.st hS 0 rfl rfl rfl (by rfl) (by rfl) (by first | exact Nat.le_of_ble_eq_true rfl | omega | (simp only [wr_size]; omega))) ?_ | refine RL.e0 (Ef.st hS 1 rfl rfl rfl (by rfl) (by rfl) (by first | exact Nat.le_of_ble_eq_true rfl | omega | (simp only [wr_size]; omega))) ?_ | refine RL.e0 (Ef.st hS 2 rfl rfl rfl (by rfl) (by rfl) (by first | exact Nat.le_of_ble_eq_true rfl | omega | (simp only [wr_size]; omega))) ?_ | refine RL.e0 (Ef.st hS 3 rfl rfl rfl (by rfl) (by rfl) (by first | exact Nat.le_of_ble_eq_true rfl | omega | (simp only [wr_size]; omega))) ?_
      intro _ w hS
      simp (disch := omega) only [List.set_cons_zero, List.set_cons_succ, cells_int', Nat.zero_add, List.set_cons_zero] at hS
      refine RL.nil ?_
      refine RE.sqN ?_
      refine RC.seq ?_
      refine RC.seq ?_
      refine RC.region rfl ?_
      refine RL.q (Qt.fld rfl) ?_
      refine RL.q (Qt.ld rfl (by first | exact hS.at 0 rfl | exact hS.at 1 rfl | exact hS.at 2 rfl | exact hS.at 3 rfl) (by first | exact hq.qc.links | rfl)) ?_
      refine RL.q (Qt.eql rfl rfl) ?_
      refine RL.nil ?_
      refine RE.sqN ?_
      -- stops: cond
      refine RC.cond rfl (fun h3 => ?_) (fun h3 => ?_)
      · skip
        have h3 : q.behind y.id = -1 := of_decide_eq_true h3
        have hc2 := hc1.setLast hlv.1 hlv.2 (q.ahead y.id)
        have hl2 := hl1
        have hl3 := hl2.setRow (i := y.id) (by omega) (by omega) 0 0 0 false
        refine RC.drawn 8 [0, 1, 2, 3, 4, 5, 6, 7] (Same _) (by kernel_rfl) (by kernel_rfl) Same.drew (fun hh => ?_)
        replace hS := hS.drew
        refine RH.q hh (Calm.sq Calm.body) rfl (by kernel_rfl) (Qt.mv rfl) ?_
        refine RH.q hh (Calm.sq Calm.body) rfl (by kernel_rfl) (Qt.fld rfl) ?_
        refine RH.q hh (Calm.sq Calm.body) rfl (by kernel_rfl) (Qt.ld rfl (by first | exact hS.at 0 rfl | exact hS.at 1 rfl | exact hS.at 2 rfl | exact hS.at 3 rfl) (by first | exact hq.qc.links | exact hc1.links | exact hc2.links | exact hc2.first _ hlv.1 hlv.2 | rfl)) ?_
        refine RH.q hh (Calm.sq Calm.body) rfl (by kernel_rfl) (Qt.fld rfl) ?_
        refine RH.q hh (Calm.sq Calm.body) rfl (by kernel_rfl) (Qt.ld rfl (by first | exact hS.at 0 rfl | exact hS.at 1 rfl | exact hS.at 2 rfl | exact hS.at 3 rfl) (by first | exact hq.qc.links | exact hc1.links | exact hc2.links | exact hc2.first _ hlv.1 hlv.2 | rfl)) ?_
        refine RH.q hh (Calm.sq Calm.body) rfl (by kernel_rfl) (Qt.nil rfl) ?_
        refine RH.q hh (Calm.sq Calm.body) rfl (by kernel_rfl) (Qt.fld rfl) ?_
        refine RH.q hh (Calm.sq Calm.body) rfl (by kernel_rfl) (Qt.ixA rfl rfl (by first | assumption | omega | (dsimp only; omega)) (by first | assumption | omega | (dsimp only; omega))) ?_
        refine RH.done hh (by kernel_rfl) ?_
        first | refine RL.e0 (Ef.st hS 0 rfl rfl rfl (by rfl) (by rfl) (by first | exact Nat.le_of_ble_eq_true rfl | omega | (simp only [wr_size]; omega))) ?_ | refine RL.e0 (Ef.st hS 1 rfl rfl rfl (by rfl) (by rfl) (by first | exact Nat.le_of_ble_eq_true rfl | omega | (simp only [wr_size]; omega))) ?_ | refine RL.e0 (Ef.st hS 2 rfl rfl rfl (by rfl) (by rfl) (by first | exact Nat.le_of_ble_eq_true rfl | omega | (simp only [wr_size]; omega))) ?_ | refine RL.e0 (Ef.st hS 3 rfl rfl rfl (by rfl) (by rfl) (by first | exact Nat.le_of_ble_eq_true rfl | omega | (simp only [wr_size]; omega))) ?_
        intro _ w hS
        simp (disch := omega) only [List.set_cons_zero, List.set_cons_succ, cells_int', Nat.zero_add, List.set_cons_zero] at hS
        refine RL.nil ?_
        refine RE.sqN ?_
        refine RC.seq ?_
        refine RC.seq ?_
        refine RC.drawn 8 [0, 1, 2, 3, 4, 5, 6, 7] (Same _) (by kernel_rfl) (by kernel_rfl) Same.drew (fun hh => ?_)
        replace hS := hS.drew
        refine RH.q hh (Calm.sq (Calm.sq Calm.body)) rfl (by kernel_rfl) (Qt.mv rfl) ?_
        refine RH.q hh (Calm.sq (Calm.sq Calm.body)) rfl (by kernel_rfl) (Qt.fld rfl) ?_
        refine RH.q hh (Calm.sq (Calm.sq Calm.body)) rfl (by kernel_rfl) (Qt.ld rfl (by first | exact hS.at 0 rfl | exact hS.at 1 rfl | exact hS.at 2 rfl | exact hS.at 3 rfl) (by first | exact hq.qc.links | exact hc1.links | exact hc2.links | exact hc2.first _ hlv.1 hlv.2 | rfl)) ?_
        refine RH.q hh (Calm.sq (Calm.sq Calm.body)) rfl (by kernel_rfl) (Qt.nil rfl) ?_
        refine RH.q hh (Calm.sq (Calm.sq Calm.body)) rfl (by kernel_rfl) (Qt.fld rfl) ?_
        refine RH.q hh (Calm.sq (Calm.sq Calm.body)) rfl (by kernel_rfl) (Qt.ixA rfl rfl (by first | assumption | omega | (dsimp only; omega)) (by first | assumption | omega | (dsimp only; omega))) ?_
        refine RH.q hh (Calm.sq (Calm.sq Calm.body)) rfl (by kernel_rfl) (Qt.ld rfl (by first | exact hS.at 0 rfl | exact hS.at 1 rfl | exact hS.at 2 rfl | exact hS.at 3 rfl) (by first | exact hq.qc.links | exact hc1.links | exact hc2.links | exact hc2.first _ hlv.1 hlv.2 | rfl)) ?_
        refine RH.q hh (Calm.sq (Calm.sq Calm.body)) rfl (by kernel_rfl) (Qt.eql rfl rfl) ?_
        refine RH.done hh (by kernel_rfl) ?_
        refine RL.nil ?_
        refine RE.sqN ?_
        -- stops: cond
        refine RC.cond rfl (fun h4 => ?_) (fun h4 => ?_)
        · skip
          have h4 : (upd q.first (q.lv y.id) (q.behind y.id)) (q.lv y.id) = -1 := of_decide_eq_true h4
          have hc3 := hc2.setMask (i := q.lv y.id / 64) (by omega) (by omega) (andNotB (W (q.lv y.id / 64)) (q.lv y.id % 64))
          have hc4 := hc3.setMany (q.many - 1)
          refine RC.drawn 16 [0, 1, 2, 3, 4, 5, 6, 7, 8, 9, 10, 11, 12, 13, 14, 15] (Same _) (by kernel_rfl) (by kernel_rfl) Same.drew (fun hh => ?_)
          replace hS := hS.drew
          refine RH.q hh (Calm.sq Calm.body) rfl (by kernel_rfl) (Qt.mv rfl) ?_
          refine RH.q hh (Calm.sq Calm.body) rfl (by kernel_rfl) (Qt.fld rfl) ?_
          refine RH.q hh (Calm.sq Calm.body) rfl (by kernel_rfl) (Qt.ld rfl (by first | exact hS.at 0 rfl | exact hS.at 1 rfl | exact hS.at 2 rfl | exact hS.at 3 rfl) (by first | exact hc2.mask _ (by omega) (by omega) | exact hc3.links | exact hc3.many | exact hq.qc.links | rfl)) ?_
          refine RH.q hh (Calm.sq Calm.body) rfl (by kernel_rfl) ((by first | exact Qt.quoI rfl rfl (by dsimp only [inK]; omega) (by omega) | exact Qt.quo rfl rfl (by first | decide | omega))) ?_
          refine RH.q hh (Calm.sq Calm.body) rfl (by kernel_rfl) (Qt.nil rfl) ?_
          refine RH.q hh (Calm.sq Calm.body) rfl (by kernel_rfl) (Qt.fld rfl) ?_
          refine RH.q hh (Calm.sq Calm.body) rfl (by kernel_rfl) (Qt.ixA rfl rfl (by first | assumption | omega | (dsimp only; omega)) (by first | assumption | omega | (dsimp only; omega))) ?_
          refine RH.q hh (Calm.sq Calm.body) rfl (by kernel_rfl) (Qt.ld rfl (by first | exact hS.at 0 rfl | exact hS.at 1 rfl | exact hS.at 2 rfl | exact hS.at 3 rfl) (by first | exact hc2.mask _ (by omega) (by omega) | exact hc3.links | exact hc3.many | exact hq.qc.links | rfl)) ?_
          refine RH.q hh (Calm.sq Calm.body) rfl (by kernel_rfl) (Qt.fld rfl) ?_
          refine RH.q hh (Calm.sq Calm.body) rfl (by kernel_rfl) (Qt.ld rfl (by first | exact hS.at 0 rfl | exact hS.at 1 rfl | exact hS.at 2 rfl | exact hS.at 3 rfl) (by first | exact hc2.mask _ (by omega) (by omega) | exact hc3.links | exact hc3.many | exact hq.qc.links | rfl)) ?_
          refine RH.q hh (Calm.sq Calm.body) rfl (by kernel_rfl) ((by first | exact Qt.remI rfl rfl (by omega) | exact Qt.rem rfl rfl (by first | decide | omega))) ?_
          refine RH.q hh (Calm.sq Calm.body) rfl (by kernel_rfl) (Qt.shl rfl rfl (by first | assumption | omega | (dsimp only; omega))) ?_
          refine RH.q hh (Calm.sq Calm.body) rfl (by kernel_rfl) (Qt.andNot rfl rfl) ?_
          refine RH.q hh (Calm.sq Calm.body) rfl (by kernel_rfl) (Qt.nil rfl) ?_
          refine RH.q hh (Calm.sq Calm.body) rfl (by kernel_rfl) (Qt.fld rfl) ?_
          refine RH.q hh (Calm.sq Calm.body) rfl (by kernel_rfl) (Qt.ixA rfl rfl (by first | assumption | omega | (dsimp only; omega)) (by first | assumption | omega | (dsimp only; omega))) ?_
          refine RH.done hh (by kernel_rfl) ?_
          first | refine RL.e0 (Ef.st hS 0 rfl rfl rfl (by rfl) (by rfl) (by first | exact Nat.le_of_ble_eq_true rfl | omega | (simp only [wr_size]; omega))) ?_ | refine RL.e0 (Ef.st hS 1 rfl rfl rfl (by rfl) (by rfl) (by first | exact Nat.le_of_ble_eq_true rfl | omega | (simp only [wr_size]; omega))) ?_ | refine RL.e0 (Ef.st hS 2 rfl rfl rfl (by rfl) (by rfl) (by first | exact Nat.le_of_ble_eq_true rfl | omega | (simp only [wr_size]; omega))) ?_ | refine RL.e0 (Ef.st hS 3 rfl rfl rfl (by rfl) (by rfl) (by first | exact Nat.le_of_ble_eq_true rfl | omega | (simp only [wr_size]; omega))) ?_
          intro _ w hS
          simp (disch := omega) only [List.set_cons_zero, List.set_cons_succ, cells_int', Nat.zero_add, List.set_cons_zero] at hS
          refine RL.nil ?_
          refine RE.sqN ?_
          refine RC.seq ?_
          refine RC.region rfl ?_
          refine RL.q (Qt.mv rfl) ?_
          refine RL.q (Qt.nil rfl) ?_
          refine RL.q (Qt.fld rfl) ?_
          refine RL.q (Qt.ld rfl (by first | exact hS.at 0 rfl | exact hS.at 1 rfl | exact hS.at 2 rfl | exact hS.at 3 rfl) (by first | exact hc2.mask _ (by omega) (by omega) | exact hc3.links | exact hc3.many | exact hq.qc.links | rfl)) ?_
          refine RL.q (Qt.mv rfl) ?_
          refine RL.q (Qt.bldV [.const (Go.Value.int Go.IntKind.i64 0), .const (Go.Value.int Go.IntKind.i64 0), .const (Go.Value.int Go.IntKind.u8 0), .const (Go.Value.bool false)] rfl rfl (by kernel_rfl)) ?_
          refine RL.q (Qt.ixS rfl rfl (by first | assumption | omega | (dsimp only; omega)) (by first | assumption | omega | (dsimp only; omega))) ?_
          first | refine RL.e0 (Ef.st hS 0 rfl rfl rfl (by rfl) (by rfl) (by first | exact Nat.le_of_ble_eq_true rfl | omega | (simp only [wr_size]; omega))) ?_ | refine RL.e0 (Ef.st hS 1 rfl rfl rfl (by rfl) (by rfl) (by first | exact Nat.le_of_ble_eq_true rfl | omega | (simp only [wr_size]; omega))) ?_ | refine RL.e0 (Ef.st hS 2 rfl rfl rfl (by rfl) (by rfl) (by first | exact Nat.le_of_ble_eq_true rfl | omega | (simp only [wr_size]; omega))) ?_ | refine RL.e0 (Ef.st hS 3 rfl rfl rfl (by rfl) (by rfl) (by first | exact Nat.le_of_ble_eq_true rfl | omega | (simp only [wr_size]; omega))) ?_
          intro _ w hS
          simp (disch := omega) only [List.set_cons_zero, List.set_cons_succ, cells_agg', Nat.zero_add, List.set_cons_zero] at hS
          refine RL.nil ?_
          refine RE.sqN ?_
          refine RC.seq ?_
          refine RC.region rfl ?_
          refine RL.q (Qt.mv rfl) ?_
          refine RL.q (Qt.nil rfl) ?_
          refine RL.q (Qt.fld rfl) ?_
          refine RL.q (Qt.ld rfl (by first | exact hS.at 0 rfl | exact hS.at 1 rfl | exact hS.at 2 rfl | exact hS.at 3 rfl) (by first | exact hc2.mask _ (by omega) (by omega) | exact hc3.links | exact hc3.many | exact hq.qc.links | rfl)) ?_
          refine RL.q ((by first | exact Qt.subI rfl rfl (by dsimp only [inK]; omega) | exact Qt.sub rfl rfl)) ?_
          refine RL.q (Qt.nil rfl) ?_
          refine RL.q (Qt.fld rfl) ?_
          first | refine RL.e0 (Ef.st hS 0 rfl rfl rfl (by rfl) (by rfl) (by first | exact Nat.le_of_ble_eq_true rfl | omega | (simp only [wr_size]; omega))) ?_ | refine RL.e0 (Ef.st hS 1 rfl rfl rfl (by rfl) (by rfl) (by first | exact Nat.le_of_ble_eq_true rfl | omega | (simp only [wr_size]; omega))) ?_ | refine RL.e0 (Ef.st hS 2 rfl rfl rfl (by rfl) (by rfl) (by first | exact Nat.le_of_ble_eq_true rfl | omega | (simp only [wr_size]; omega))) ?_ | refine RL.e0 (Ef.st hS 3 rfl rfl rfl (by rfl) (by rfl) (by first | exact Nat.le_of_ble_eq_true rfl | omega | (simp only [wr_size]; omega))) ?_
          intro _ w hS
          simp (disch := omega) only [List.set_cons_zero, List.set_cons_succ, cells_int', Nat.zero_add, List.set_cons_zero] at hS
          refine RL.nil ?_
          refine RE.sqN ?_
          refine RC.seq ?_
          refine RC.region rfl ?_
          refine RL.q (Qt.as rfl) ?_
          refine RL.nil ?_
          refine RE.sqN ?_
          refine RC.ret ?_
          -- stops: end ret
          refine RE.retB rfl ⟨rfl, rfl⟩ (qO_shut (cap := cap) (q := q.rem y.id) (W := upd W (q.lv y.id / 64) (andNotB (W (q.lv y.id / 64)) (q.lv y.id % 64))) ⟨hr, ?_, hq.pos, hq.max, ?_, ?_⟩ (hS.pick [1, 2, 3] (by decide) rfl))
          · have hm : (q.rem y.id).mask = upd q.mask (q.lv y.id) false := by unfold BQ.rem; dsimp only; rw [if_pos h2, if_pos h4]
            rw [hm]; exact hq.mw.andNot hlv.1 hlv.2
          · have hf : (q.rem y.id).first = upd q.first (q.lv y.id) (q.behind y.id) := if_pos h2
            have hl : (q.rem y.id).last = upd q.last (q.lv y.id) (q.ahead y.id) := if_pos h3
            rw [hf, hl]; exact hc4
          · have ha : (q.rem y.id).ahead = upd q.ahead y.id 0 := congrArg (fun f => upd f y.id 0) (if_pos h3)
            have hb : (q.rem y.id).behind = upd q.behind y.id 0 := congrArg (fun f => upd f y.id 0) (if_pos h2)
            rw [ha, hb]; exact hl3
        · skip
          have h4 : ¬ (upd q.first (q.lv y.id) (q.behind y.id)) (q.lv y.id) = -1 := of_decide_eq_false h4
          have hc3 := hc2
          have hc4 := hc3.setMany (q.many - 1)
          refine RC.skip ?_
          refine RE.sqN ?_
          refine RC.seq ?_
          refine RC.region rfl ?_
          refine RL.q (Qt.mv rfl) ?_
          refine RL.q (Qt.nil rfl) ?_
          refine RL.q (Qt.fld rfl) ?_
          refine RL.q (Qt.ld rfl (by first | exact hS.at 0 rfl | exact hS.at 1 rfl | exact hS.at 2 rfl | exact hS.at 3 rfl) (by first | exact hc2.mask _ (by omega) (by omega) | exact hc3.links | exact hc3.many | exact hq.qc.links | rfl)) ?_
          refine RL.q (Qt.mv rfl) ?_
          refine RL.q (Qt.bldV [.const (Go.Value.int Go.IntKind.i64 0), .const (Go.Value.int Go.IntKind.i64 0), .const (Go.Value.int Go.IntKind.u8 0), .const (Go.Value.bool false)] rfl rfl (by kernel_rfl)) ?_
          refine RL.q (Qt.ixS rfl rfl (by first | assumption | omega | (dsimp only; omega)) (by first | assumption | omega | (dsimp only; omega))) ?_
          first | refine RL.e0 (Ef.st hS 0 rfl rfl rfl (by rfl) (by rfl) (by first | exact Nat.le_of_ble_eq_true rfl | omega | (simp only [wr_size]; omega))) ?_ | refine RL.e0 (Ef.st hS 1 rfl rfl rfl (by rfl) (by rfl) (by first | exact Nat.le_of_ble_eq_true rfl | omega | (simp only [wr_size]; omega))) ?_ | refine RL.e0 (Ef.st hS 2 rfl rfl rfl (by rfl) (by rfl) (by first | exact Nat.le_of_ble_eq_true rfl | omega | (simp only [wr_size]; omega))) ?_ | refine RL.e0 (Ef.st hS 3 rfl rfl rfl (by rfl) (by rfl) (by first | exact Nat.le_of_ble_eq_true rfl | omega | (simp only [wr_size]; omega))) ?_
          intro _ w hS
          simp (disch := omega) only [List.set_cons_zero, List.set_cons_succ, cells_agg', Nat.zero_add, List.set_cons_zero] at hS
          refine RL.nil ?_
          refine RE.sqN ?_
          refine RC.seq ?_
          refine RC.region rfl ?_
          refine RL.q (Qt.mv rfl) ?_
          refine RL.q (Qt.nil rfl) ?_
          refine RL.q (Qt.fld rfl) ?_
          refine RL.q (Qt.ld rfl (by first | exact hS.at 0 rfl | exact hS.at 1 rfl | exact hS.at 2 rfl | exact hS.at 3 rfl) (by first | exact hc2.mask _ (by omega) (by omega) | exact hc3.links | exact hc3.many | exact hq.qc.links | rfl)) ?_
          refine RL.q ((by first | exact Qt.subI rfl rfl (by dsimp only [inK]; omega) | exact Qt.sub rfl rfl)) ?_
          refine RL.q (Qt.nil rfl) ?_
          refine RL.q (Qt.fld rfl) ?_
          first | refine RL.e0 (Ef.st hS 0 rfl rfl rfl (by rfl) (by rfl) (by first | exact Nat.le_of_ble_eq_true rfl | omega | (simp only [wr_size]; omega))) ?_ | refine RL.e0 (Ef.st hS 1 rfl rfl rfl (by rfl) (by rfl) (by first | exact Nat.le_of_ble_eq_true rfl | omega | (simp only [wr_size]; omega))) ?_ | refine RL.e0 (Ef.st hS 2 rfl rfl rfl (by rfl) (by rfl) (by first | exact Nat.le_of_ble_eq_true rfl | omega | (simp only [wr_size]; omega))) ?_ | refine RL.e0 (Ef.st hS 3 rfl rfl rfl (by rfl) (by rfl) (by first | exact Nat.le_of_ble_eq_true rfl | omega | (simp only [wr_size]; omega))) ?_
          intro _ w hS
          simp (disch := omega) only [List.set_cons_zero, List.set_cons_succ, cells_int', Nat.zero_add, List.set_cons_zero] at hS
          refine RL.nil ?_
          refine RE.sqN ?_
          refine RC.seq ?_
          refine RC.region rfl ?_
          refine RL.q (Qt.as rfl) ?_
          refine RL.nil ?_
          refine RE.sqN ?_
          refine RC.ret ?_
          -- stops: end ret
          refine RE.retB rfl ⟨rfl, rfl⟩ (qO_shut (cap := cap) (q := q.rem y.id) (W := W) ⟨hr, ?_, hq.pos, hq.max, ?_, ?_⟩ (hS.pick [1, 2, 3] (by decide) rfl))
          · have hm : (q.rem y.id).mask = q.mask := by unfold BQ.rem; dsimp only; rw [if_pos h2, if_neg h4]
            rw [hm]; exact hq.mw
          · have hf : (q.rem y.id).first = upd q.first (q.lv y.id) (q.behind y.id) := if_pos h2
            have hl : (q.rem y.id).last = upd q.last (q.lv y.id) (q.ahead y.id) := if_pos h3
            rw [hf, hl]; exact hc4
          · have ha : (q.rem y.id).ahead = upd q.ahead y.id 0 := congrArg (fun f => upd f y.id 0) (if_pos h3)
            have hb : (q.rem y.id).behind = upd q.behind y.id 0 := congrArg (fun f => upd f y.id 0) (if_pos h2)
            rw [ha, hb]; exact hl3
      · skip
        have h3 : ¬ q.behind y.id = -1 := of_decide_eq_false h3
        have hrb := hrb.resolve_left h3
        have hl2 := hl1.setAhead hrb.1 hrb.2 (q.ahead y.id)
        have hc2 := hc1
        have hl3 := hl2.setRow (i := y.id) (by omega) (by omega) 0 0 0 false
        refine RC.drawn 10 [0, 1, 2, 3, 4, 5, 6, 7, 8, 9] (Same _) (by kernel_rfl) (by kernel_rfl) Same.drew (fun hh => ?_)
        replace hS := hS.drew
        refine RH.q hh (Calm.sq Calm.body) rfl (by kernel_rfl) (Qt.mv rfl) ?_
        refine RH.q hh (Calm.sq Calm.body) rfl (by kernel_rfl) (Qt.nil rfl) ?_
        refine RH.q hh (Calm.sq Calm.body) rfl (by kernel_rfl) (Qt.fld rfl) ?_
        refine RH.q hh (Calm.sq Calm.body) rfl (by kernel_rfl) (Qt.ld rfl (by first | exact hS.at 0 rfl | exact hS.at 1 rfl | exact hS.at 2 rfl | exact hS.at 3 rfl) (by first | exact hq.qc.links | exact hc1.links | exact hc2.links | exact hc2.first _ hlv.1 hlv.2 | rfl)) ?_
        refine RH.q hh (Calm.sq Calm.body) rfl (by kernel_rfl) (Qt.fld rfl) ?_
        refine RH.q hh (Calm.sq Calm.body) rfl (by kernel_rfl) (Qt.ld rfl (by first | exact hS.at 0 rfl | exact hS.at 1 rfl | exact hS.at 2 rfl | exact hS.at 3 rfl) (by first | exact hq.qc.links | exact hc1.links | exact hc2.links | exact hc2.first _ hlv.1 hlv.2 | rfl)) ?_
        refine RH.q hh (Calm.sq Calm.body) rfl (by kernel_rfl) (Qt.fld rfl) ?_
        refine RH.q hh (Calm.sq Calm.body) rfl (by kernel_rfl) (Qt.ld rfl (by first | exact hS.at 0 rfl | exact hS.at 1 rfl | exact hS.at 2 rfl | exact hS.at 3 rfl) (by first | exact hq.qc.links | exact hc1.links | exact hc2.links | exact hc2.first _ hlv.1 hlv.2 | rfl)) ?_
        refine RH.q hh (Calm.sq Calm.body) rfl (by kernel_rfl) (Qt.ixS rfl rfl (by first | assumption | omega | (dsimp only; omega)) (by first | assumption | omega | (dsimp only; omega))) ?_
        refine RH.q hh (Calm.sq Calm.body) rfl (by kernel_rfl) (Qt.fld rfl) ?_
        refine RH.done hh (by kernel_rfl) ?_
        first | refine RL.e0 (Ef.st hS 0 rfl rfl rfl (by rfl) (by rfl) (by first | exact Nat.le_of_ble_eq_true rfl | omega | (simp only [wr_size]; omega))) ?_ | refine RL.e0 (Ef.st hS 1 rfl rfl rfl (by rfl) (by rfl) (by first | exact Nat.le_of_ble_eq_true rfl | omega | (simp only [wr_size]; omega))) ?_ | refine RL.e0 (Ef.st hS 2 rfl rfl rfl (by rfl) (by rfl) (by first | exact Nat.le_of_ble_eq_true rfl | omega | (simp only [wr_size]; omega))) ?_ | refine RL.e0 (Ef.st hS 3 rfl rfl rfl (by rfl) (by rfl) (by first | exact Nat.le_of_ble_eq_true rfl | omega | (simp only [wr_size]; omega))) ?_
        intro _ w hS
        simp (disch := omega) only [List.set_cons_zero, List.set_cons_succ, cells_int', Nat.zero_add, List.set_cons_zero] at hS
        refine RL.nil ?_
        refine RE.sqN ?_
        refine RC.seq ?_
        refine RC.seq ?_
        refine RC.drawn 8 [0, 1, 2, 3, 4, 5, 6, 7] (Same _) (by kernel_rfl) (by kernel_rfl) Same.drew (fun hh => ?_)
        replace hS := hS.drew
        refine RH.q hh (Calm.sq (Calm.sq Calm.body)) rfl (by kernel_rfl) (Qt.mv rfl) ?_
        refine RH.q hh (Calm.sq (Calm.sq Calm.body)) rfl (by kernel_rfl) (Qt.fld rfl) ?_
        refine RH.q hh (Calm.sq (Calm.sq Calm.body)) rfl (by kernel_rfl) (Qt.ld rfl (by first | exact hS.at 0 rfl | exact hS.at 1 rfl | exact hS.at 2 rfl | exact hS.at 3 rfl) (by first | exact hq.qc.links | exact hc1.links | exact hc2.links | exact hc2.first _ hlv.1 hlv.2 | rfl)) ?_
        refine RH.q hh (Calm.sq (Calm.sq Calm.body)) rfl (by kernel_rfl) (Qt.nil rfl) ?_
        refine RH.q hh (Calm.sq (Calm.sq Calm.body)) rfl (by kernel_rfl) (Qt.fld rfl) ?_
        refine RH.q hh (Calm.sq (Calm.sq Calm.body)) rfl (by kernel_rfl) (Qt.ixA rfl rfl (by first | assumption | omega | (dsimp only; omega)) (by first | assumption | omega | (dsimp only; omega))) ?_
        refine RH.q hh (Calm.sq (Calm.sq Calm.body)) rfl (by kernel_rfl) (Qt.ld rfl (by first | exact hS.at 0 rfl | exact hS.at 1 rfl | exact hS.at 2 rfl | exact hS.at 3 rfl) (by first | exact hq.qc.links | exact hc1.links | exact hc2.links | exact hc2.first _ hlv.1 hlv.2 | rfl)) ?_
        refine RH.q hh (Calm.sq (Calm.sq Calm.body)) rfl (by kernel_rfl) (Qt.eql rfl rfl) ?_
        refine RH.done hh (by kernel_rfl) ?_
        refine RL.nil ?_
        refine RE.sqN ?_
        -- stops: cond
        refine RC.cond rfl (fun h4 => ?_) (fun h4 => ?_)
        · skip
          have h4 : (upd q.first (q.lv y.id) (q.behind y.id)) (q.lv y.id) = -1 := of_decide_eq_true h4
          have hc3 := hc2.setMask (i := q.lv y.id / 64) (by omega) (by omega) (andNotB (W (q.lv y.id / 64)) (q.lv y.id % 64))
          have hc4 := hc3.setMany (q.many - 1)
          refine RC.drawn 16 [0, 1, 2, 3, 4, 5, 6, 7, 8, 9, 10, 11, 12, 13, 14, 15] (Same _) (by kernel_rfl) (by kernel_rfl) Same.drew (fun hh => ?_)
          replace hS := hS.drew
          refine RH.q hh (Calm.sq Calm.body) rfl (by kernel_rfl) (Qt.mv rfl) ?_
          refine RH.q hh (Calm.sq Calm.body) rfl (by kernel_rfl) (Qt.fld rfl) ?_
          refine RH.q hh (Calm.sq Calm.body) rfl (by kernel_rfl) (Qt.ld rfl (by first | exact hS.at 0 rfl | exact hS.at 1 rfl | exact hS.at 2 rfl | exact hS.at 3 rfl) (by first | exact hc2.mask _ (by omega) (by omega) | exact hc3.links | exact hc3.many | exact hq.qc.links | rfl)) ?_
          refine RH.q hh (Calm.sq Calm.body) rfl (by kernel_rfl) ((by first | exact Qt.quoI rfl rfl (by dsimp only [inK]; omega) (by omega) | exact Qt.quo rfl rfl (by first | decide | omega))) ?_
          refine RH.q hh (Calm.sq Calm.body) rfl (by kernel_rfl) (Qt.nil rfl) ?_
          refine RH.q hh (Calm.sq Calm.body) rfl (by kernel_rfl) (Qt.fld rfl) ?_
          refine RH.q hh (Calm.sq Calm.body) rfl (by kernel_rfl) (Qt.ixA rfl rfl (by first | assumption | omega | (dsimp only; omega)) (by first | assumption | omega | (dsimp only; omega))) ?_
          refine RH.q hh (Calm.sq Calm.body) rfl (by kernel_rfl) (Qt.ld rfl (by first | exact hS.at 0 rfl | exact hS.at 1 rfl | exact hS.at 2 rfl | exact hS.at 3 rfl) (by first | exact hc2.mask _ (by omega) (by omega) | exact hc3.links | exact hc3.many | exact hq.qc.links | rfl)) ?_
          refine RH.q hh (Calm.sq Calm.body) rfl (by kernel_rfl) (Qt.fld rfl) ?_
          refine RH.q hh (Calm.sq Calm.body) rfl (by kernel_rfl) (Qt.ld rfl (by first | exact hS.at 0 rfl | exact hS.at 1 rfl | exact hS.at 2 rfl | exact hS.at 3 rfl) (by first | exact hc2.mask _ (by omega) (by omega) | exact hc3.links | exact hc3.many | exact hq.qc.links | rfl)) ?_
          refine RH.q hh (Calm.sq Calm.body) rfl (by kernel_rfl) ((by first | exact Qt.remI rfl rfl (by omega) | exact Qt.rem rfl rfl (by first | decide | omega))) ?_
          refine RH.q hh (Calm.sq Calm.body) rfl (by kernel_rfl) (Qt.shl rfl rfl (by first | assumption | omega | (dsimp only; omega))) ?_
          refine RH.q hh (Calm.sq Calm.body) rfl (by kernel_rfl) (Qt.andNot rfl rfl) ?_
          refine RH.q hh (Calm.sq Calm.body) rfl (by kernel_rfl) (Qt.nil rfl) ?_
          refine RH.q hh (Calm.sq Calm.body) rfl (by kernel_rfl) (Qt.fld rfl) ?_
          refine RH.q hh (Calm.sq Calm.body) rfl (by kernel_rfl) (Qt.ixA rfl rfl (by first | assumption | omega | (dsimp only; omega)) (by first | assumption | omega | (dsimp only; omega))) ?_
          refine RH.done hh (by kernel_rfl) ?_
          first | refine RL.e0 (Ef.st hS 0 rfl rfl rfl (by rfl) (by rfl) (by first | exact Nat.le_of_ble_eq_true rfl | omega | (simp only [wr_size]; omega))) ?_ | refine RL.e0 (Ef.st hS 1 rfl rfl rfl (by rfl) (by rfl) (by first | exact Nat.le_of_ble_eq_true rfl | omega | (simp only [wr_size]; omega))) ?_ | refine RL.e0 (Ef.st hS 2 rfl rfl rfl (by rfl) (by rfl) (by first | exact Nat.le_of_ble_eq_true rfl | omega | (simp only [wr_size]; omega))) ?_ | refine RL.e0 (Ef.st hS 3 rfl rfl rfl (by rfl) (by rfl) (by first | exact Nat.le_of_ble_eq_true rfl | omega | (simp only [wr_size]; omega))) ?_
          intro _ w hS
          simp (disch := omega) only [List.set_cons_zero, List.set_cons_succ, cells_int', Nat.zero_add, List.set_cons_zero] at hS
          refine RL.nil ?_
          refine RE.sqN ?_
          refine RC.seq ?_
          refine RC.region rfl ?_
          refine RL.q (Qt.mv rfl) ?_
          refine RL.q (Qt.nil rfl) ?_
          refine RL.q (Qt.fld rfl) ?_
          refine RL.q (Qt.ld rfl (by first | exact hS.at 0 rfl | exact hS.at 1 rfl | exact hS.at 2 rfl | exact hS.at 3 rfl) (by first | exact hc2.mask _ (by omega) (by omega) | exact hc3.links | exact hc3.many | exact hq.qc.links | rfl)) ?_
          refine RL.q (Qt.mv rfl) ?_
          refine RL.q (Qt.bldV [.const (Go.Value.int Go.IntKind.i64 0), .const (Go.Value.int Go.IntKind.i64 0), .const (Go.Value.int Go.IntKind.u8 0), .const (Go.Value.bool false)] rfl rfl (by kernel_rfl)) ?_
          refine RL.q (Qt.ixS rfl rfl (by first | assumption | omega | (dsimp only; omega)) (by first | assumption | omega | (dsimp only; omega))) ?_
          first | refine RL.e0 (Ef.st hS 0 rfl rfl rfl (by rfl) (by rfl) (by first | exact Nat.le_of_ble_eq_true rfl | omega | (simp only [wr_size]; omega))) ?_ | refine RL.e0 (Ef.st hS 1 rfl rfl rfl (by rfl) (by rfl) (by first | exact Nat.le_of_ble_eq_true rfl | omega | (simp only [wr_size]; omega))) ?_ | refine RL.e0 (Ef.st hS 2 rfl rfl rfl (by rfl) (by rfl) (by first | exact Nat.le_of_ble_eq_true rfl | omega | (simp only [wr_size]; omega))) ?_ | refine RL.e0 (Ef.st hS 3 rfl rfl rfl (by rfl) (by rfl) (by first | exact Nat.le_of_ble_eq_true rfl | omega | (simp only [wr_size]; omega))) ?_
          intro _ w hS
          simp (disch := omega) only [List.set_cons_zero, List.set_cons_succ, cells_agg', Nat.zero_add, List.set_cons_zero] at hS
          refine RL.nil ?_
          refine RE.sqN ?_
          refine RC.seq ?_
          refine RC.region rfl ?_
          refine RL.q (Qt.mv rfl) ?_
          refine RL.q (Qt.nil rfl) ?_
          refine RL.q (Qt.fld rfl) ?_
          refine RL.q (Qt.ld rfl (by first | exact hS.at 0 rfl | exact hS.at 1 rfl | exact hS.at 2 rfl | exact hS.at 3 rfl) (by first | exact hc2.mask _ (by omega) (by omega) | exact hc3.links | exact hc3.many | exact hq.qc.links | rfl)) ?_
          refine RL.q ((by first | exact Qt.subI rfl rfl (by dsimp only [inK]; omega) | exact Qt.sub rfl rfl)) ?_
          refine RL.q (Qt.nil rfl) ?_
          refine RL.q (Qt.fld rfl) ?_
          first | refine RL.e0 (Ef.st hS 0 rfl rfl rfl (by rfl) (by rfl) (by first | exact Nat.le_of_ble_eq_true rfl | omega | (simp only [wr_size]; omega))) ?_ | refine RL.e0 (Ef.st hS 1 rfl rfl rfl (by rfl) (by rfl) (by first | exact Nat.le_of_ble_eq_true rfl | omega | (simp only [wr_size]; omega))) ?_ | refine RL.e0 (Ef.st hS 2 rfl rfl rfl (by rfl) (by rfl) (by first | exact Nat.le_of_ble_eq_true rfl | omega | (simp only [wr_size]; omega))) ?_ | refine RL.e0 (Ef.st hS 3 rfl rfl rfl (by rfl) (by rfl) (by first | exact Nat.le_of_ble_eq_true rfl | omega | (simp only [wr_size]; omega))) ?_
          intro _ w hS
          simp (disch := omega) only [List.set_cons_zero, List.set_cons_succ, cells_int', Nat.zero_add, List.set_cons_zero] at hS
          refine RL.nil ?_
          refine RE.sqN ?_
          refine RC.seq ?_
          refine RC.region rfl ?_
          refine RL.q (Qt.as rfl) ?_
          refine RL.nil ?_
          refine RE.sqN ?_
          refine RC.ret ?_
          -- stops: end ret
          refine RE.retB rfl ⟨rfl, rfl⟩ (qO_shut (cap := cap) (q := q.rem y.id) (W := upd W (q.lv y.id / 64) (andNotB (W (q.lv y.id / 64)) (q.lv y.id % 64))) ⟨hr, ?_, hq.pos, hq.max, ?_, ?_⟩ (hS.pick [1, 2, 3] (by decide) rfl))
          · have hm : (q.rem y.id).mask = upd q.mask (q.lv y.id) false := by unfold BQ.rem; dsimp only; rw [if_pos h2, if_pos h4]
            rw [hm]; exact hq.mw.andNot hlv.1 hlv.2
          · have hf : (q.rem y.id).first = upd q.first (q.lv y.id) (q.behind y.id) := if_pos h2
            have hl : (q.rem y.id).last = q.last := if_neg h3
            rw [hf, hl]; exact hc4
          · have ha : (q.rem y.id).ahead = upd (upd q.ahead (q.behind y.id) (q.ahead y.id)) y.id 0 := congrArg (fun f => upd f y.id 0) (if_neg h3)
            have hb : (q.rem y.id).behind = upd q.behind y.id 0 := congrArg (fun f => upd f y.id 0) (if_pos h2)
            rw [ha, hb]; exact hl3
        · skip
          have h4 : ¬ (upd q.first (q.lv y.id) (q.behind y.id)) (q.lv y.id) = -1 := of_decide_eq_false h4
          have hc3 := hc2
          have hc4 := hc3.setMany (q.many - 1)
          refine RC.skip ?_
          refine RE.sqN ?_
          refine RC.seq ?_
          refine RC.region rfl ?_
          refine RL.q (Qt.mv rfl) ?_
          refine RL.q (Qt.nil rfl) ?_
          refine RL.q (Qt.fld rfl) ?_
          refine RL.q (Qt.ld rfl (by first | exact hS.at 0 rfl | exact hS.at 1 rfl | exact hS.at 2 rfl | exact hS.at 3 rfl) (by first | exact hc2.mask _ (by omega) (by omega) | exact hc3.links | exact hc3.many | exact hq.qc.links | rfl)) ?_
          refine RL.q (Qt.mv rfl) ?_
          refine RL.q (Qt.bldV [.const (Go.Value.int Go.IntKind.i64 0), .const (Go.Value.int Go.IntKind.i64 0), .const (Go.Value.int Go.IntKind.u8 0), .const (Go.Value.bool false)] rfl rfl (by kernel_rfl)) ?_
          refine RL.q (Qt.ixS rfl rfl (by first | assumption | omega | (dsimp only; omega)) (by first | assumption | omega | (dsimp only; omega))) ?_
          first | refine RL.e0 (Ef.st hS 0 rfl rfl rfl (by rfl) (by rfl) (by first | exact Nat.le_of_ble_eq_true rfl | omega | (simp only [wr_size]; omega))) ?_ | refine RL.e0 (Ef.st hS 1 rfl rfl rfl (by rfl) (by rfl) (by first | exact Nat.le_of_ble_eq_true rfl | omega | (simp only [wr_size]; omega))) ?_ | refine RL.e0 (Ef.st hS 2 rfl rfl rfl (by rfl) (by rfl) (by first | exact Nat.le_of_ble_eq_true rfl | omega | (simp only [wr_size]; omega))) ?_ | refine RL.e0 (Ef.st hS 3 rfl rfl rfl (by rfl) (by rfl) (by first | exact Nat.le_of_ble_eq_true rfl | omega | (simp only [wr_size]; omega))) ?_
          intro _ w hS
          simp (disch := omega) only [List.set_cons_zero, List.set_cons_succ, cells_agg', Nat.zero_add, List.set_cons_zero] at hS
          refine RL.nil ?_
          refine RE.sqN ?_
          refine RC.seq ?_
          refine RC.region rfl ?_
          refine RL.q (Qt.mv rfl) ?_
          refine RL.q (Qt.nil rfl) ?_
          refine RL.q (Qt.fld rfl) ?_
          refine RL.q (Qt.ld rfl (by first | exact hS.at 0 rfl | exact hS.at 1 rfl | exact hS.at 2 rfl | exact hS.at 3 rfl) (by first | exact hc2.mask _ (by omega) (by omega) | exact hc3.links | exact hc3.many | exact hq.qc.links | rfl)) ?_
          refine RL.q ((by first | exact Qt.subI rfl rfl (by dsimp only [inK]; omega) | exact Qt.sub rfl rfl)) ?_
          refine RL.q (Qt.nil rfl) ?_
          refine RL.q (Qt.fld rfl) ?_
          first | refine RL.e0 (Ef.st hS 0 rfl rfl rfl (by rfl) (by rfl) (by first | exact Nat.le_of_ble_eq_true rfl | omega | (simp only [wr_size]; omega))) ?_ | refine RL.e0 (Ef.st hS 1 rfl rfl rfl (by rfl) (by rfl) (by first | exact Nat.le_of_ble_eq_true rfl | omega | (simp only [wr_size]; omega))) ?_ | refine RL.e0 (Ef.st hS 2 rfl rfl rfl (by rfl) (by rfl) (by first | exact Nat.le_of_ble_eq_true rfl | omega | (simp only [wr_size]; omega))) ?_ | refine RL.e0 (Ef.st hS 3 rfl rfl rfl (by rfl) (by rfl) (by first | exact Nat.le_of_ble_eq_true rfl | omega | (simp only [wr_size]; omega))) ?_
          intro _ w hS
          simp (disch := omega) only [List.set_cons_zero, List.set_cons_succ, cells_int', Nat.zero_add, List.set_cons_zero] at hS
          refine RL.nil ?_
          refine RE.sqN ?_
          refine RC.seq ?_
          refine RC.region rfl ?_
          refine RL.q (Qt.as rfl) ?_
          refine RL.nil ?_
          refine RE.sqN ?_
          refine RC.ret ?_
          -- stops: end ret
          refine RE.retB rfl ⟨rfl, rfl⟩ (qO_shut (cap := cap) (q := q.rem y.id) (W := W) ⟨hr, ?_, hq.pos, hq.max, ?_, ?_⟩ (hS.pick [1, 2, 3] (by decide) rfl))
          · have hm : (q.rem y.id).mask = q.mask := by unfold BQ.rem; dsimp only; rw [if_pos h2, if_neg h4]
            rw [hm]; exact hq.mw
          · have hf : (q.rem y.id).first = upd q.first (q.lv y.id) (q.behind y.id) := if_pos h2
            have hl : (q.rem y.id).last = q.last := if_neg h3
            rw [hf, hl]; exact hc4
          · have ha : (q.rem y.id).ahead = upd (upd q.ahead (q.behind y.id) (q.ahead y.id)) y.id 0 := congrArg (fun f => upd f y.id 0) (if_neg h3)
            have hb : (q.rem y.id).behind = upd q.behind y.id 0 := congrArg (fun f => upd f y.id 0) (if_pos h2)
            rw [ha, hb]; exact hl3
    · skip
      have h2 : ¬ q.ahead y.id = -1 := of_decide_eq_false h2
      have hra := hra.resolve_left h2
      have hl1 := hq.la.setBehind hra.1 hra.2 (q.behind y.id)
      have hc1 := hq.qc
      refine RC.drawn 10 [0, 1, 2, 3, 4, 5, 6, 7, 8, 9] (Same _) (by kernel_rfl) (by kernel_rfl) Same.drew (fun hh => ?_)
      replace hS := hS.drew
      refine RH.q hh (Calm.sq Calm.body) rfl (by kernel_rfl) (Qt.mv rfl) ?_
      refine RH.q hh (Calm.sq Calm.body) rfl (by kernel_rfl) (Qt.nil rfl) ?_
      refine RH.q hh (Calm.sq Calm.body) rfl (by kernel_rfl) (Qt.fld rfl) ?_
      refine RH.q hh (Calm.sq Calm.body) rfl (by kernel_rfl) (Qt.ld rfl (by first | exact hS.at 0 rfl | exact hS.at 1 rfl | exact hS.at 2 rfl | exact hS.at 3 rfl) (by first | exact hq.qc.links | rfl)) ?_
      refine RH.q hh (Calm.sq Calm.body) rfl (by kernel_rfl) (Qt.fld rfl) ?_
      refine RH.q hh (Calm.sq Calm.body) rfl (by kernel_rfl) (Qt.ld rfl (by first | exact hS.at 0 rfl | exact hS.at 1 rfl | exact hS.at 2 rfl | exact hS.at 3 rfl) (by first | exact hq.qc.links | rfl)) ?_
      refine RH.q hh (Calm.sq Calm.body) rfl (by kernel_rfl) (Qt.fld rfl) ?_
      refine RH.q hh (Calm.sq Calm.body) rfl (by kernel_rfl) (Qt.ld rfl (by first | exact hS.at 0 rfl | exact hS.at 1 rfl | exact hS.at 2 rfl | exact hS.at 3 rfl) (by first | exact hq.qc.links | rfl)) ?_
      refine RH.q hh (Calm.sq Calm.body) rfl (by kernel_rfl) (Qt.ixS rfl rfl (by first | assumption | omega | (dsimp only; omega)) (by first | assumption | omega | (dsimp only; omega))) ?_
      refine RH.q hh (Calm.sq Calm.body) rfl (by kernel_rfl) (Qt.fld rfl) ?_
      refine RH.done hh (by kernel_rfl) ?_
      first | refine RL.e0 (Ef.st hS 0 rfl rfl rfl (by rfl) (by rfl) (by first | exact Nat.le_of_ble_eq_true rfl | omega | (simp only [wr_size]; omega))) ?_ | refine RL.e0 (Ef.st hS 1 rfl rfl rfl (by rfl) (by rfl) (by first | exact Nat.le_of_ble_eq_true rfl | omega | (simp only [wr_size]; omega))) ?_ | refine RL.e0 (Ef.st hS 2 rfl rfl rfl (by rfl) (by rfl) (by first | exact Nat.le_of_ble_eq_true rfl | omega | (simp only [wr_size]; omega))) ?_ | refine RL.e0 (Ef.st hS 3 rfl rfl rfl (by rfl) (by rfl) (by first | exact Nat.le_of_ble_eq_true rfl | omega | (simp only [wr_size]; omega))) ?_
      intro _ w hS
      simp (disch := omega) only [List.set_cons_zero, List.set_cons_succ, cells_int', Nat.zero_add, List.set_cons_zero] at hS
      refine RL.nil ?_
      refine RE.sqN ?_
      refine RC.seq ?_
      refine RC.seq ?_
      refine RC.region rfl ?_
      refine RL.q (Qt.fld rfl) ?_
      refine RL.q (Qt.ld rfl (by first | exact hS.at 0 rfl | exact hS.at 1 rfl | exact hS.at 2 rfl | exact hS.at 3 rfl) (by first | exact hq.qc.links | rfl)) ?_
      refine RL.q (Qt.eql rfl rfl) ?_
      refine RL.nil ?_
      refine RE.sqN ?_
      -- stops: cond
      refine RC.cond rfl (fun h3 => ?_) (fun h3 => ?_)
      · skip
        have h3 : q.behind y.id = -1 := of_decide_eq_true h3
        have hc2 := hc1.setLast hlv.1 hlv.2 (q.ahead y.id)
        have hl2 := hl1
        have hl3 := hl2.setRow (i := y.id) (by omega) (by omega) 0 0 0 false
        refine RC.drawn 8 [0, 1, 2, 3, 4, 5, 6, 7] (Same _) (by kernel_rfl) (by kernel_rfl) Same.drew (fun hh => ?_)
        replace hS := hS.drew
        refine RH.q hh (Calm.sq Calm.body) rfl (by kernel_rfl) (Qt.mv rfl) ?_
        refine RH.q hh (Calm.sq Calm.body) rfl (by kernel_rfl) (Qt.fld rfl) ?_
        refine RH.q hh (Calm.sq Calm.body) rfl (by kernel_rfl) (Qt.ld rfl (by first | exact hS.at 0 rfl | exact hS.at 1 rfl | exact hS.at 2 rfl | exact hS.at 3 rfl) (by first | exact hq.qc.links | exact hc1.links | exact hc2.links | exact hc2.first _ hlv.1 hlv.2 | rfl)) ?_
        refine RH.q hh (Calm.sq Calm.body) rfl (by kernel_rfl) (Qt.fld rfl) ?_
        refine RH.q hh (Calm.sq Calm.body) rfl (by kernel_rfl) (Qt.ld rfl (by first | exact hS.at 0 rfl | exact hS.at 1 rfl | exact hS.at 2 rfl | exact hS.at 3 rfl) (by first | exact hq.qc.links | exact hc1.links | exact hc2.links | exact hc2.first _ hlv.1 hlv.2 | rfl)) ?_
        refine RH.q hh (Calm.sq Calm.body) rfl (by kernel_rfl) (Qt.nil rfl) ?_
        refine RH.q hh (Calm.sq Calm.body) rfl (by kernel_rfl) (Qt.fld rfl) ?_
        refine RH.q hh (Calm.sq Calm.body) rfl (by kernel_rfl) (Qt.ixA rfl rfl (by first | assumption | omega | (dsimp only; omega)) (by first | assumption | omega | (dsimp only; omega))) ?_
        refine RH.done hh (by kernel_rfl) ?_
        first | refine RL.e0 (Ef.st hS 0 rfl rfl rfl (by rfl) (by rfl) (by first | exact Nat.le_of_ble_eq_true rfl | omega | (simp only [wr_size]; omega))) ?_ | refine RL.e0 (Ef.st hS 1 rfl rfl rfl (by rfl) (by rfl) (by first | exact Nat.le_of_ble_eq_true rfl | omega | (simp only [wr_size]; omega))) ?_ | refine RL.e0 (Ef.st hS 2 rfl rfl rfl (by rfl) (by rfl) (by first | exact Nat.le_of_ble_eq_true rfl | omega | (simp only [wr_size]; omega))) ?_ | refine RL.e0 (Ef.st hS 3 rfl rfl rfl (by rfl) (by rfl) (by first | exact Nat.le_of_ble_eq_true rfl | omega | (simp only [wr_size]; omega))) ?_
        intro _ w hS
        simp (disch := omega) only [List.set_cons_zero, List.set_cons_succ, cells_int', Nat.zero_add, List.set_cons_zero] at hS
        refine RL.nil ?_
        refine RE.sqN ?_
        refine RC.seq ?_
        refine RC.seq ?_
        refine RC.drawn 8 [0, 1, 2, 3, 4, 5, 6, 7] (Same _) (by kernel_rfl) (by kernel_rfl) Same.drew (fun hh => ?_)
        replace hS := hS.drew
        refine RH.q hh (Calm.sq (Calm.sq Calm.body)) rfl (by kernel_rfl) (Qt.mv rfl) ?_
        refine RH.q hh (Calm.sq (Calm.sq Calm.body)) rfl (by kernel_rfl) (Qt.fld rfl) ?_
        refine RH.q hh (Calm.sq (Calm.sq Calm.body)) rfl (by kernel_rfl) (Qt.ld rfl (by first | exact hS.at 0 rfl | exact hS.at 1 rfl | exact hS.at 2 rfl | exact hS.at 3 rfl) (by first | exact hq.qc.links | exact hc1.links | exact hc2.links | exact hc2.first _ hlv.1 hlv.2 | rfl)) ?_
        refine RH.q hh (Calm.sq (Calm.sq Calm.body)) rfl (by kernel_rfl) (Qt.nil rfl) ?_
        refine RH.q hh (Calm.sq (Calm.sq Calm.body)) rfl (by kernel_rfl) (Qt.fld rfl) ?_
        refine RH.q hh (Calm.sq (Calm.sq Calm.body)) rfl (by kernel_rfl) (Qt.ixA rfl rfl (by first | assumption | omega | (dsimp only; omega)) (by first | assumption | omega | (dsimp only; omega))) ?_
        refine RH.q hh (Calm.sq (Calm.sq Calm.body)) rfl (by kernel_rfl) (Qt.ld rfl (by first | exact hS.at 0 rfl | exact hS.at 1 rfl | exact hS.at 2 rfl | exact hS.at 3 rfl) (by first | exact hq.qc.links | exact hc1.links | exact hc2.links | exact hc2.first _ hlv.1 hlv.2 | rfl)) ?_
        refine RH.q hh (Calm.sq (Calm.sq Calm.body)) rfl (by kernel_rfl) (Qt.eql rfl rfl) ?_
        refine RH.done hh (by kernel_rfl) ?_
        refine RL.nil ?_
        refine RE.sqN ?_
        -- stops: cond
        refine RC.cond rfl (fun h4 => ?_) (fun h4 => ?_)
        · skip
          have h4 : (q.first) (q.lv y.id) = -1 := of_decide_eq_true h4
          have hc3 := hc2.setMask (i := q.lv y.id / 64) (by omega) (by omega) (andNotB (W (q.lv y.id / 64)) (q.lv y.id % 64))
          have hc4 := hc3.setMany (q.many - 1)
          refine RC.drawn 16 [0, 1, 2, 3, 4, 5, 6, 7, 8, 9, 10, 11, 12, 13, 14, 15] (Same _) (by kernel_rfl) (by kernel_rfl) Same.drew (fun hh => ?_)
          replace hS := hS.drew
          refine RH.q hh (Calm.sq Calm.body) rfl (by kernel_rfl) (Qt.mv rfl) ?_
          refine RH.q hh (Calm.sq Calm.body) rfl (by kernel_rfl) (Qt.fld rfl) ?_
          refine RH.q hh (Calm.sq Calm.body) rfl (by kernel_rfl) (Qt.ld rfl (by first | exact hS.at 0 rfl | exact hS.at 1 rfl | exact hS.at 2 rfl | exact hS.at 3 rfl) (by first | exact hc2.mask _ (by omega) (by omega) | exact hc3.links | exact hc3.many | exact hq.qc.links | rfl)) ?_
          refine RH.q hh (Calm.sq Calm.body) rfl (by kernel_rfl) ((by first | exact Qt.quoI rfl rfl (by dsimp only [inK]; omega) (by omega) | exact Qt.quo rfl rfl (by first | decide | omega))) ?_
          refine RH.q hh (Calm.sq Calm.body) rfl (by kernel_rfl) (Qt.nil rfl) ?_
          refine RH.q hh (Calm.sq Calm.body) rfl (by kernel_rfl) (Qt.fld rfl) ?_
          refine RH.q hh (Calm.sq Calm.body) rfl (by kernel_rfl) (Qt.ixA rfl rfl (by first | assumption | omega | (dsimp only; omega)) (by first | assumption | omega | (dsimp only; omega))) ?_
          refine RH.q hh (Calm.sq Calm.body) rfl (by kernel_rfl) (Qt.ld rfl (by first | exact hS.at 0 rfl | exact hS.at 1 rfl | exact hS.at 2 rfl | exact hS.at 3 rfl) (by first | exact hc2.mask _ (by omega) (by omega) | exact hc3.links | exact hc3.many | exact hq.qc.links | rfl)) ?_
          refine RH.q hh (Calm.sq Calm.body) rfl (by kernel_rfl) (Qt.fld rfl) ?_
          refine RH.q hh (Calm.sq Calm.body) rfl (by kernel_rfl) (Qt.ld rfl (by first | exact hS.at 0 rfl | exact hS.at 1 rfl | exact hS.at 2 rfl | exact hS.at 3 rfl) (by first | exact hc2.mask _ (by omega) (by omega) | exact hc3.links | exact hc3.many | exact hq.qc.links | rfl)) ?_
          refine RH.q hh (Calm.sq Calm.body) rfl (by kernel_rfl) ((by first | exact Qt.remI rfl rfl (by omega) | exact Qt.rem rfl rfl (by first | decide | omega))) ?_
          refine RH.q hh (Calm.sq Calm.body) rfl (by kernel_rfl) (Qt.shl rfl rfl (by first | assumption | omega | (dsimp only; omega))) ?_
          refine RH.q hh (Calm.sq Calm.body) rfl (by kernel_rfl) (Qt.andNot rfl rfl) ?_
          refine RH.q hh (Calm.sq Calm.body) rfl (by kernel_rfl) (Qt.nil rfl) ?_
          refine RH.q hh (Calm.sq Calm.body) rfl (by kernel_rfl) (Qt.fld rfl) ?_
          refine RH.q hh (Calm.sq Calm.body) rfl (by kernel_rfl) (Qt.ixA rfl rfl (by first | assumption | omega | (dsimp only; omega)) (by first | assumption | omega | (dsimp only; omega))) ?_
          refine RH.done hh (by kernel_rfl) ?_
          first | refine RL.e0 (Ef.st hS 0 rfl rfl rfl (by rfl) (by rfl) (by first | exact Nat.le_of_ble_eq_true rfl | omega | (simp only [wr_size]; omega))) ?_ | refine RL.e0 (Ef.st hS 1 rfl rfl rfl (by rfl) (by rfl) (by first | exact Nat.le_of_ble_eq_true rfl | omega | (simp only [wr_size]; omega))) ?_ | refine RL.e0 (Ef.st hS 2 rfl rfl rfl (by rfl) (by rfl) (by first | exact Nat.le_of_ble_eq_true rfl | omega | (simp only [wr_size]; omega))) ?_ | refine RL.e0 (Ef.st hS 3 rfl rfl rfl (by rfl) (by rfl) (by first | exact Nat.le_of_ble_eq_true rfl | omega | (simp only [wr_size]; omega))) ?_
          intro _ w hS
          simp (disch := omega) only [List.set_cons_zero, List.set_cons_succ, cells_int', Nat.zero_add, List.set_cons_zero] at hS
          refine RL.nil ?_
          refine RE.sqN ?_
          refine RC.seq ?_
          refine RC.region rfl ?_
          refine RL.q (Qt.mv rfl) ?_
          refine RL.q (Qt.nil rfl) ?_
          refine RL.q (Qt.fld rfl) ?_
          refine RL.q (Qt.ld rfl (by first | exact hS.at 0 rfl | exact hS.at 1 rfl | exact hS.at 2 rfl | exact hS.at 3 rfl) (by first | exact hc2.mask _ (by omega) (by omega) | exact hc3.links | exact hc3.many | exact hq.qc.links | rfl)) ?_
          refine RL.q (Qt.mv rfl) ?_
          refine RL.q (Qt.bldV [.const (Go.Value.int Go.IntKind.i64 0), .const (Go.Value.int Go.IntKind.i64 0), .const (Go.Value.int Go.IntKind.u8 0), .const (Go.Value.bool false)] rfl rfl (by kernel_rfl)) ?_
          refine RL.q (Qt.ixS rfl rfl (by first | assumption | omega | (dsimp only; omega)) (by first | assumption | omega | (dsimp only; omega))) ?_
          first | refine RL.e0 (Ef.st hS 0 rfl rfl rfl (by rfl) (by rfl) (by first | exact Nat.le_of_ble_eq_true rfl | omega | (simp only [wr_size]; omega))) ?_ | refine RL.e0 (Ef.st hS 1 rfl rfl rfl (by rfl) (by rfl) (by first | exact Nat.le_of_ble_eq_true rfl | omega | (simp only [wr_size]; omega))) ?_ | refine RL.e0 (Ef.st hS 2 rfl rfl rfl (by rfl) (by rfl) (by first | exact Nat.le_of_ble_eq_true rfl | omega | (simp only [wr_size]; omega))) ?_ | refine RL.e0 (Ef.st hS 3 rfl rfl rfl (by rfl) (by rfl) (by first | exact Nat.le_of_ble_eq_true rfl | omega | (simp only [wr_size]; omega))) ?_
          intro _ w hS
          simp (disch := omega) only [List.set_cons_zero, List.set_cons_succ, cells_agg', Nat.zero_add, List.set_cons_zero] at hS
          refine RL.nil ?_
          refine RE.sqN ?_
          refine RC.seq ?_
          refine RC.region rfl ?_
          refine RL.q (Qt.mv rfl) ?_
          refine RL.q (Qt.nil rfl) ?_
          refine RL.q (Qt.fld rfl) ?_
          refine RL.q (Qt.ld rfl (by first | exact hS.at 0 rfl | exact hS.at 1 rfl | exact hS.at 2 rfl | exact hS.at 3 rfl) (by first | exact hc2.mask _ (by omega) (by omega) | exact hc3.links | exact hc3.many | exact hq.qc.links | rfl)) ?_
          refine RL.q ((by first | exact Qt.subI rfl rfl (by dsimp only [inK]; omega) | exact Qt.sub rfl rfl)) ?_
          refine RL.q (Qt.nil rfl) ?_
          refine RL.q (Qt.fld rfl) ?_
          first | refine RL.e0 (Ef.st hS 0 rfl rfl rfl (by rfl) (by rfl) (by first | exact Nat.le_of_ble_eq_true rfl | omega | (simp only [wr_size]; omega))) ?_ | refine RL.e0 (Ef.st hS 1 rfl rfl rfl (by rfl) (by rfl) (by first | exact Nat.le_of_ble_eq_true rfl | omega | (simp only [wr_size]; omega))) ?_ | refine RL.e0 (Ef.st hS 2 rfl rfl rfl (by rfl) (by rfl) (by first | exact Nat.le_of_ble_eq_true rfl | omega | (simp only [wr_size]; omega))) ?_ | refine RL.e0 (Ef.st hS 3 rfl rfl rfl (by rfl) (by rfl) (by first | exact Nat.le_of_ble_eq_true rfl | omega | (simp only [wr_size]; omega))) ?_
          intro _ w hS
          simp (disch := omega) only [List.set_cons_zero, List.set_cons_succ, cells_int', Nat.zero_add, List.set_cons_zero] at hS
          refine RL.nil ?_
          refine RE.sqN ?_
          refine RC.seq ?_
          refine RC.region rfl ?_
          refine RL.q (Qt.as rfl) ?_
          refine RL.nil ?_
          refine RE.sqN ?_
          refine RC.ret ?_
          -- stops: end ret
          refine RE.retB rfl ⟨rfl, rfl⟩ (qO_shut (cap := cap) (q := q.rem y.id) (W := upd W (q.lv y.id / 64) (andNotB (W (q.lv y.id / 64)) (q.lv y.id % 64))) ⟨hr, ?_, hq.pos, hq.max, ?_, ?_⟩ (hS.pick [1, 2, 3] (by decide) rfl))
          · have hm : (q.rem y.id).mask = upd q.mask (q.lv y.id) false := by unfold BQ.rem; dsimp only; rw [if_neg h2, if_pos h4]
            rw [hm]; exact hq.mw.andNot hlv.1 hlv.2
          · have hf : (q.rem y.id).first = q.first := if_neg h2
            have hl : (q.rem y.id).last = upd q.last (q.lv y.id) (q.ahead y.id) := if_pos h3
            rw [hf, hl]; exact hc4
          · have ha : (q.rem y.id).ahead = upd q.ahead y.id 0 := congrArg (fun f => upd f y.id 0) (if_pos h3)
            have hb : (q.rem y.id).behind = upd (upd q.behind (q.ahead y.id) (q.behind y.id)) y.id 0 := congrArg (fun f => upd f y.id 0) (if_neg h2)
            rw [ha, hb]; exact hl3
        · skip
          have h4 : ¬ (q.first) (q.lv y.id) = -1 := of_decide_eq_false h4
          have hc3 := hc2
          have hc4 := hc3.setMany (q.many - 1)
          refine RC.skip ?_
          refine RE.sqN ?_
          refine RC.seq ?_
          refine RC.region rfl ?_
          refine RL.q (Qt.mv rfl) ?_
          refine RL.q (Qt.nil rfl) ?_
          refine RL.q (Qt.fld rfl) ?_
          refine RL.q (Qt.ld rfl (by first | exact hS.at 0 rfl | exact hS.at 1 rfl | exact hS.at 2 rfl | exact hS.at 3 rfl) (by first | exact hc2.mask _ (by omega) (by omega) | exact hc3.links | exact hc3.many | exact hq.qc.links | rfl)) ?_
          refine RL.q (Qt.mv rfl) ?_
          refine RL.q (Qt.bldV [.const (Go.Value.int Go.IntKind.i64 0), .const (Go.Value.int Go.IntKind.i64 0), .const (Go.Value.int Go.IntKind.u8 0), .const (Go.Value.bool false)] rfl rfl (by kernel_rfl)) ?_
          refine RL.q (Qt.ixS rfl rfl (by first | assumption | omega | (dsimp only; omega)) (by first | assumption | omega | (dsimp only; omega))) ?_
          first | refine RL.e0 (Ef.st hS 0 rfl rfl rfl (by rfl) (by rfl) (by first | exact Nat.le_of_ble_eq_true rfl | omega | (simp only [wr_size]; omega))) ?_ | refine RL.e0 (Ef.st hS 1 rfl rfl rfl (by rfl) (by rfl) (by first | exact Nat.le_of_ble_eq_true rfl | omega | (simp only [wr_size]; omega))) ?_ | refine RL.e0 (Ef.st hS 2 rfl rfl rfl (by rfl) (by rfl) (by first | exact Nat.le_of_ble_eq_true rfl | omega | (simp only [wr_size]; omega))) ?_ | refine RL.e0 (Ef.st hS 3 rfl rfl rfl (by rfl) (by rfl) (by first | exact Nat.le_of_ble_eq_true rfl | omega | (simp only [wr_size]; omega))) ?_
          intro _ w hS
          simp (disch := omega) only [List.set_cons_zero, List.set_cons_succ, cells_agg', Nat.zero_add, List.set_cons_zero] at hS
          refine RL.nil ?_
          refine RE.sqN ?_
          refine RC.seq ?_
          refine RC.region rfl ?_
          refine RL.q (Qt.mv rfl) ?_
          refine RL.q (Qt.nil rfl) ?_
          refine RL.q (Qt.fld rfl) ?_
          refine RL.q (Qt.ld rfl (by first | exact hS.at 0 rfl | exact hS.at 1 rfl | exact hS.at 2 rfl | exact hS.at 3 rfl) (by first | exact hc2.mask _ (by omega) (by omega) | exact hc3.links | exact hc3.many | exact hq.qc.links | rfl)) ?_
          refine RL.q ((by first | exact Qt.subI rfl rfl (by dsimp only [inK]; omega) | exact Qt.sub rfl rfl)) ?_
          refine RL.q (Qt.nil rfl) ?_
          refine RL.q (Qt.fld rfl) ?_
          first | refine RL.e0 (Ef.st hS 0 rfl rfl rfl (by rfl) (by rfl) (by first | exact Nat.le_of_ble_eq_true rfl | omega | (simp only [wr_size]; omega))) ?_ | refine RL.e0 (Ef.st hS 1 rfl rfl rfl (by rfl) (by rfl) (by first | exact Nat.le_of_ble_eq_true rfl | omega | (simp only [wr_size]; omega))) ?_ | refine RL.e0 (Ef.st hS 2 rfl rfl rfl (by rfl) (by rfl) (by first | exact Nat.le_of_ble_eq_true rfl | omega | (simp only [wr_size]; omega))) ?_ | refine RL.e0 (Ef.st hS 3 rfl rfl rfl (by rfl) (by rfl) (by first | exact Nat.le_of_ble_eq_true rfl | omega | (simp only [wr_size]; omega))) ?_
          intro _ w hS
          simp (disch := omega) only [List.set_cons_zero, List.set_cons_succ, cells_int', Nat.zero_add, List.set_cons_zero] at hS
          refine RL.nil ?_
          refine RE.sqN ?_
          refine RC.seq ?_
          refine RC.region rfl ?_
          refine RL.q (Qt.as rfl) ?_
          refine RL.nil ?_
          refine RE.sqN ?_
          refine RC.ret ?_
          -- stops: end ret
          refine RE.retB rfl ⟨rfl, rfl⟩ (qO_shut (cap := cap) (q := q.rem y.id) (W := W) ⟨hr, ?_, hq.pos, hq.max, ?_, ?_⟩ (hS.pick [1, 2, 3] (by decide) rfl))
          · have hm : (q.rem y.id).mask = q.mask := by unfold BQ.rem; dsimp only; rw [if_neg h2, if_neg h4]
            rw [hm]; exact hq.mw
          · have hf : (q.rem y.id).first = q.first := if_neg h2
            have hl : (q.rem y.id).last = upd q.last (q.lv y.id) (q.ahead y.id) := if_pos h3
            rw [hf, hl]; exact hc4
          · have ha : (q.rem y.id).ahead = upd q.ahead y.id 0 := congrArg (fun f => upd f y.id 0) (if_pos h3)
            have hb : (q.rem y.id).behind = upd (upd q.behind (q.ahead y.id) (q.behind y.id)) y.id 0 := congrArg (fun f => upd f y.id 0) (if_neg h2)
            rw [ha, hb]; exact hl3
      · skip
        have h3 : ¬ q.behind y.id = -1 := of_decide_eq_false h3
        have hrb := hrb.resolve_left h3
        have hl2 := hl1.setAhead hrb.1 hrb.2 (q.ahead y.id)
        have hc2 := hc1
        have hl3 := hl2.setRow (i := y.id) (by omega) (by omega) 0 0 0 false
        refine RC.drawn 10 [0, 1, 2, 3, 4, 5, 6, 7, 8, 9] (Same _) (by kernel_rfl) (by kernel_rfl) Same.drew (fun hh => ?_)
        replace hS := hS.drew
        refine RH.q hh (Calm.sq Calm.body) rfl (by kernel_rfl) (Qt.mv rfl) ?_
        refine RH.q hh (Calm.sq Calm.body) rfl (by kernel_rfl) (Qt.nil rfl) ?_
        refine RH.q hh (Calm.sq Calm.body) rfl (by kernel_rfl) (Qt.fld rfl) ?_
        refine RH.q hh (Calm.sq Calm.body) rfl (by kernel_rfl) (Qt.ld rfl (by first | exact hS.at 0 rfl | exact hS.at 1 rfl | exact hS.at 2 rfl | exact hS.at 3 rfl) (by first | exact hq.qc.links | exact hc1.links | exact hc2.links | exact hc2.first _ hlv.1 hlv.2 | rfl)) ?_
        refine RH.q hh (Calm.sq Calm.body) rfl (by kernel_rfl) (Qt.fld rfl) ?_
        refine RH.q hh (Calm.sq Calm.body) rfl (by kernel_rfl) (Qt.ld rfl (by first | exact hS.at 0 rfl | exact hS.at 1 rfl | exact hS.at 2 rfl | exact hS.at 3 rfl) (by first | exact hq.qc.links | exact hc1.links | exact hc2.links | exact hc2.first _ hlv.1 hlv.2 | rfl)) ?_
        refine RH.q hh (Calm.sq Calm.body) rfl (by kernel_rfl) (Qt.fld rfl) ?_
        refine RH.q hh (Calm.sq Calm.body) rfl (by kernel_rfl) (Qt.ld rfl (by first | exact hS.at 0 rfl | exact hS.at 1 rfl | exact hS.at 2 rfl | exact hS.at 3 rfl) (by first | exact hq.qc.links | exact hc1.links | exact hc2.links | exact hc2.first _ hlv.1 hlv.2 | rfl)) ?_
        refine RH.q hh (Calm.sq Calm.body) rfl (by kernel_rfl) (Qt.ixS rfl rfl (by first | assumption | omega | (dsimp only; omega)) (by first | assumption | omega | (dsimp only; omega))) ?_
        refine RH.q hh (Calm.sq Calm.body) rfl (by kernel_rfl) (Qt.fld rfl) ?_
        refine RH.done hh (by kernel_rfl) ?_
        first | refine RL.e0 (Ef.st hS 0 rfl rfl rfl (by rfl) (by rfl) (by first | exact Nat.le_of_ble_eq_true rfl | omega | (simp only [wr_size]; omega))) ?_ | refine RL.e0 (Ef.st hS 1 rfl rfl rfl (by rfl) (by rfl) (by first | exact Nat.le_of_ble_eq_true rfl | omega | (simp only [wr_size]; omega))) ?_ | refine RL.e0 (Ef.st hS 2 rfl rfl rfl (by rfl) (by rfl) (by first | exact Nat.le_of_ble_eq_true rfl | omega | (simp only [wr_size]; omega))) ?_ | refine RL.e0 (Ef.st hS 3 rfl rfl rfl (by rfl) (by rfl) (by first | exact Nat.le_of_ble_eq_true rfl | omega | (simp only [wr_size]; omega))) ?_
        intro _ w hS
        simp (disch := omega) only [List.set_cons_zero, List.set_cons_succ, cells_int', Nat.zero_add, List.set_cons_zero] at hS
        refine RL.nil ?_
        refine RE.sqN ?_
        refine RC.seq ?_
        refine RC.seq ?_
        refine RC.drawn 8 [0, 1, 2, 3, 4, 5, 6, 7] (Same _) (by kernel_rfl) (by kernel_rfl) Same.drew (fun hh => ?_)
        replace hS := hS.drew
        refine RH.q hh (Calm.sq (Calm.sq Calm.body)) rfl (by kernel_rfl) (Qt.mv rfl) ?_
        refine RH.q hh (Calm.sq (Calm.sq Calm.body)) rfl (by kernel_rfl) (Qt.fld rfl) ?_
        refine RH.q hh (Calm.sq (Calm.sq Calm.body)) rfl (by kernel_rfl) (Qt.ld rfl (by first | exact hS.at 0 rfl | exact hS.at 1 rfl | exact hS.at 2 rfl | exact hS.at 3 rfl) (by first | exact hq.qc.links | exact hc1.links | exact hc2.links | exact hc2.first _ hlv.1 hlv.2 | rfl)) ?_
        refine RH.q hh (Calm.sq (Calm.sq Calm.body)) rfl (by kernel_rfl) (Qt.nil rfl) ?_
        refine RH.q hh (Calm.sq (Calm.sq Calm.body)) rfl (by kernel_rfl) (Qt.fld rfl) ?_
        refine RH.q hh (Calm.sq (Calm.sq Calm.body)) rfl (by kernel_rfl) (Qt.ixA rfl rfl (by first | assumption | omega | (dsimp only; omega)) (by first | assumption | omega | (dsimp only; omega))) ?_
        refine RH.q hh (Calm.sq (Calm.sq Calm.body)) rfl (by kernel_rfl) (Qt.ld rfl (by first | exact hS.at 0 rfl | exact hS.at 1 rfl | exact hS.at 2 rfl | exact hS.at 3 rfl) (by first | exact hq.qc.links | exact hc1.links | exact hc2.links | exact hc2.first _ hlv.1 hlv.2 | rfl)) ?_
        refine RH.q hh (Calm.sq (Calm.sq Calm.body)) rfl (by kernel_rfl) (Qt.eql rfl rfl) ?_
        refine RH.done hh (by kernel_rfl) ?_
        refine RL.nil ?_
        refine RE.sqN ?_
        -- stops: cond
        refine RC.cond rfl (fun h4 => ?_) (fun h4 => ?_)
        · skip
          have h4 : (q.first) (q.lv y.id) = -1 := of_decide_eq_true h4
          have hc3 := hc2.setMask (i := q.lv y.id / 64) (by omega) (by omega) (andNotB (W (q.lv y.id / 64)) (q.lv y.id % 64))
          have hc4 := hc3.setMany (q.many - 1)
          refine RC.drawn 16 [0, 1, 2, 3, 4, 5, 6, 7, 8, 9, 10, 11, 12, 13, 14, 15] (Same _) (by kernel_rfl) (by kernel_rfl) Same.drew (fun hh => ?_)
          replace hS := hS.drew
          refine RH.q hh (Calm.sq Calm.body) rfl (by kernel_rfl) (Qt.mv rfl) ?_
          refine RH.q hh (Calm.sq Calm.body) rfl (by kernel_rfl) (Qt.fld rfl) ?_
          refine RH.q hh (Calm.sq Calm.body) rfl (by kernel_rfl) (Qt.ld rfl (by first | exact hS.at 0 rfl | exact hS.at 1 rfl | exact hS.at 2 rfl | exact hS.at 3 rfl) (by first | exact hc2.mask _ (by omega) (by omega) | exact hc3.links | exact hc3.many | exact hq.qc.links | rfl)) ?_
          refine RH.q hh (Calm.sq Calm.body) rfl (by kernel_rfl) ((by first | exact Qt.quoI rfl rfl (by dsimp only [inK]; omega) (by omega) | exact Qt.quo rfl rfl (by first | decide | omega))) ?_
          refine RH.q hh (Calm.sq Calm.body) rfl (by kernel_rfl) (Qt.nil rfl) ?_
          refine RH.q hh (Calm.sq Calm.body) rfl (by kernel_rfl) (Qt.fld rfl) ?_
          refine RH.q hh (Calm.sq Calm.body) rfl (by kernel_rfl) (Qt.ixA rfl rfl (by first | assumption | omega | (dsimp only; omega)) (by first | assumption | omega | (dsimp only; omega))) ?_
          refine RH.q hh (Calm.sq Calm.body) rfl (by kernel_rfl) (Qt.ld rfl (by first | exact hS.at 0 rfl | exact hS.at 1 rfl | exact hS.at 2 rfl | exact hS.at 3 rfl) (by first | exact hc2.mask _ (by omega) (by omega) | exact hc3.links | exact hc3.many | exact hq.qc.links | rfl)) ?_
          refine RH.q hh (Calm.sq Calm.body) rfl (by kernel_rfl) (Qt.fld rfl) ?_
          refine RH.q hh (Calm.sq Calm.body) rfl (by kernel_rfl) (Qt.ld rfl (by first | exact hS.at 0 rfl | exact hS.at 1 rfl | exact hS.at 2 rfl | exact hS.at 3 rfl) (by first | exact hc2.mask _ (by omega) (by omega) | exact hc3.links | exact hc3.many | exact hq.qc.links | rfl)) ?_
          refine RH.q hh (Calm.sq Calm.body) rfl (by kernel_rfl) ((by first | exact Qt.remI rfl rfl (by omega) | exact Qt.rem rfl rfl (by first | decide | omega))) ?_
          refine RH.q hh (Calm.sq Calm.body) rfl (by kernel_rfl) (Qt.shl rfl rfl (by first | assumption | omega | (dsimp only; omega))) ?_
          refine RH.q hh (Calm.sq Calm.body) rfl (by kernel_rfl) (Qt.andNot rfl rfl) ?_
          refine RH.q hh (Calm.sq Calm.body) rfl (by kernel_rfl) (Qt.nil rfl) ?_
          refine RH.q hh (Calm.sq Calm.body) rfl (by kernel_rfl) (Qt.fld rfl) ?_
          refine RH.q hh (Calm.sq Calm.body) rfl (by kernel_rfl) (Qt.ixA rfl rfl (by first | assumption | omega | (dsimp only; omega)) (by first | assumption | omega | (dsimp only; omega))) ?_
          refine RH.done hh (by kernel_rfl) ?_
          first | refine RL.e0 (Ef.st hS 0 rfl rfl rfl (by rfl) (by rfl) (by first | exact Nat.le_of_ble_eq_true rfl | omega | (simp only [wr_size]; omega))) ?_ | refine RL.e0 (Ef.st hS 1 rfl rfl rfl (by rfl) (by rfl) (by first | exact Nat.le_of_ble_eq_true rfl | omega | (simp only [wr_size]; omega))) ?_ | refine RL.e0 (Ef.st hS 2 rfl rfl rfl (by rfl) (by rfl) (by first | exact Nat.le_of_ble_eq_true rfl | omega | (simp only [wr_size]; omega))) ?_ | refine RL.e0 (Ef.st hS 3 rfl rfl rfl (by rfl) (by rfl) (by first | exact Nat.le_of_ble_eq_true rfl | omega | (simp only [wr_size]; omega))) ?_
          intro _ w hS
          simp (disch := omega) only [List.set_cons_zero, List.set_cons_succ, cells_int', Nat.zero_add, List.set_cons_zero] at hS
          refine RL.nil ?_
          refine RE.sqN ?_
          refine RC.seq ?_
          refine RC.region rfl ?_
          refine RL.q (Qt.mv rfl) ?_
          refine RL.q (Qt.nil rfl) ?_
          refine RL.q (Qt.fld rfl) ?_
          refine RL.q (Qt.ld rfl (by first | exact hS.at 0 rfl | exact hS.at 1 rfl | exact hS.at 2 rfl | exact hS.at 3 rfl) (by first | exact hc2.mask _ (by omega) (by omega) | exact hc3.links | exact hc3.many | exact hq.qc.links | rfl)) ?_
          refine RL.q (Qt.mv rfl) ?_
          refine RL.q (Qt.bldV [.const (Go.Value.int Go.IntKind.i64 0), .const (Go.Value.int Go.IntKind.i64 0), .const (Go.Value.int Go.IntKind.u8 0), .const (Go.Value.bool false)] rfl rfl (by kernel_rfl)) ?_
          refine RL.q (Qt.ixS rfl rfl (by first | assumption | omega | (dsimp only; omega)) (by first | assumption | omega | (dsimp only; omega))) ?_
          first | refine RL.e0 (Ef.st hS 0 rfl rfl rfl (by rfl) (by rfl) (by first | exact Nat.le_of_ble_eq_true rfl | omega | (simp only [wr_size]; omega))) ?_ | refine RL.e0 (Ef.st hS 1 rfl rfl rfl (by rfl) (by rfl) (by first | exact Nat.le_of_ble_eq_true rfl | omega | (simp only [wr_size]; omega))) ?_ | refine RL.e0 (Ef.st hS 2 rfl rfl rfl (by rfl) (by rfl) (by first | exact Nat.le_of_ble_eq_true rfl | omega | (simp only [wr_size]; omega))) ?_ | refine RL.e0 (Ef.st hS 3 rfl rfl rfl (by rfl) (by rfl) (by first | exact Nat.le_of_ble_eq_true rfl | omega | (simp only [wr_size]; omega))) ?_
          intro _ w hS
          simp (disch := omega) only [List.set_cons_zero, List.set_cons_succ, cells_agg', Nat.zero_add, List.set_cons_zero] at hS
          refine RL.nil ?_
          refine RE.sqN ?_
          refine RC.seq ?_
          refine RC.region rfl ?_
          refine RL.q (Qt.mv rfl) ?_
          refine RL.q (Qt.nil rfl) ?_
          refine RL.q (Qt.fld rfl) ?_
          refine RL.q (Qt.ld rfl (by first | exact hS.at 0 rfl | exact hS.at 1 rfl | exact hS.at 2 rfl | exact hS.at 3 rfl) (by first | exact hc2.mask _ (by omega) (by omega) | exact hc3.links | exact hc3.many | exact hq.qc.links | rfl)) ?_
          refine RL.q ((by first | exact Qt.subI rfl rfl (by dsimp only [inK]; omega) | exact Qt.sub rfl rfl)) ?_
          refine RL.q (Qt.nil rfl) ?_
          refine RL.q (Qt.fld rfl) ?_
          first | refine RL.e0 (Ef.st hS 0 rfl rfl rfl (by rfl) (by rfl) (by first | exact Nat.le_of_ble_eq_true rfl | omega | (simp only [wr_size]; omega))) ?_ | refine RL.e0 (Ef.st hS 1 rfl rfl rfl (by rfl) (by rfl) (by first | exact Nat.le_of_ble_eq_true rfl | omega | (simp only [wr_size]; omega))) ?_ | refine RL.e0 (Ef.st hS 2 rfl rfl rfl (by rfl) (by rfl) (by first | exact Nat.le_of_ble_eq_true rfl | omega | (simp only [wr_size]; omega))) ?_ | refine RL.e0 (Ef.st hS 3 rfl rfl rfl (by rfl) (by rfl) (by first | exact Nat.le_of_ble_eq_true rfl | omega | (simp only [wr_size]; omega))) ?_
          intro _ w hS
          simp (disch := omega) only [List.set_cons_zero, List.set_cons_succ, cells_int', Nat.zero_add, List.set_cons_zero] at hS
          refine RL.nil ?_
          refine RE.sqN ?_
          refine RC.seq ?_
          refine RC.region rfl ?_
          refine RL.q (Qt.as rfl) ?_
          refine RL.nil ?_
          refine RE.sqN ?_
          refine RC.ret ?_
          -- stops: end ret
          refine RE.retB rfl ⟨rfl, rfl⟩ (qO_shut (cap := cap) (q := q.rem y.id) (W := upd W (q.lv y.id / 64) (andNotB (W (q.lv y.id / 64)) (q.lv y.id % 64))) ⟨hr, ?_, hq.pos, hq.max, ?_, ?_⟩ (hS.pick [1, 2, 3] (by decide) rfl))
          · have hm : (q.rem y.id).mask = upd q.mask (q.lv y.id) false := by unfold BQ.rem; dsimp only; rw [if_neg h2, if_pos h4]
            rw [hm]; exact hq.mw.andNot hlv.1 hlv.2
          · have hf : (q.rem y.id).first = q.first := if_neg h2
            have hl : (q.rem y.id).last = q.last := if_neg h3
            rw [hf, hl]; exact hc4
          · have ha : (q.rem y.id).ahead = upd (upd q.ahead (q.behind y.id) (q.ahead y.id)) y.id 0 := congrArg (fun f => upd f y.id 0) (if_neg h3)
            have hb : (q.rem y.id).behind = upd (upd q.behind (q.ahead y.id) (q.behind y.id)) y.id 0 := congrArg (fun f => upd f y.id 0) (if_neg h2)
            rw [ha, hb]; exact hl3
        · skip
          have h4 : ¬ (q.first) (q.lv y.id) = -1 := of_decide_eq_false h4
          have hc3 := hc2
          have hc4 := hc3.setMany (q.many - 1)
          refine RC.skip ?_
          refine RE.sqN ?_
          refine RC.seq ?_
          refine RC.region rfl ?_
          refine RL.q (Qt.mv rfl) ?_
          refine RL.q (Qt.nil rfl) ?_
          refine RL.q (Qt.fld rfl) ?_
          refine RL.q (Qt.ld rfl (by first | exact hS.at 0 rfl | exact hS.at 1 rfl | exact hS.at 2 rfl | exact hS.at 3 rfl) (by first | exact hc2.mask _ (by omega) (by omega) | exact hc3.links | exact hc3.many | exact hq.qc.links | rfl)) ?_
          refine RL.q (Qt.mv rfl) ?_
          refine RL.q (Qt.bldV [.const (Go.Value.int Go.IntKind.i64 0), .const (Go.Value.int Go.IntKind.i64 0), .const (Go.Value.int Go.IntKind.u8 0), .const (Go.Value.bool false)] rfl rfl (by kernel_rfl)) ?_
          refine RL.q (Qt.ixS rfl rfl (by first | assumption | omega | (dsimp only; omega)) (by first | assumption | omega | (dsimp only; omega))) ?_
          first | refine RL.e0 (Ef.st hS 0 rfl rfl rfl (by rfl) (by rfl) (by first | exact Nat.le_of_ble_eq_true rfl | omega | (simp only [wr_size]; omega))) ?_ | refine RL.e0 (Ef.st hS 1 rfl rfl rfl (by rfl) (by rfl) (by first | exact Nat.le_of_ble_eq_true rfl | omega | (simp only [wr_size]; omega))) ?_ | refine RL.e0 (Ef.st hS 2 rfl rfl rfl (by rfl) (by rfl) (by first | exact Nat.le_of_ble_eq_true rfl | omega | (simp only [wr_size]; omega))) ?_ | refine RL.e0 (Ef.st hS 3 rfl rfl rfl (by rfl) (by rfl) (by first | exact Nat.le_of_ble_eq_true rfl | omega | (simp only [wr_size]; omega))) ?_
          intro _ w hS
          simp (disch := omega) only [List.set_cons_zero, List.set_cons_succ, cells_agg', Nat.zero_add, List.set_cons_zero] at hS
          refine RL.nil ?_
          refine RE.sqN ?_
          refine RC.seq ?_
          refine RC.region rfl ?_
          refine RL.q (Qt.mv rfl) ?_
          refine RL.q (Qt.nil rfl) ?_
          refine RL.q (Qt.fld rfl) ?_
          refine RL.q (Qt.ld rfl (by first | exact hS.at 0 rfl | exact hS.at 1 rfl | exact hS.at 2 rfl | exact hS.at 3 rfl) (by first | exact hc2.mask _ (by omega) (by omega) | exact hc3.links | exact hc3.many | exact hq.qc.links | rfl)) ?_
          refine RL.q ((by first | exact Qt.subI rfl rfl (by dsimp only [inK]; omega) | exact Qt.sub rfl rfl)) ?_
          refine RL.q (Qt.nil rfl) ?_
          refine RL.q (Qt.fld rfl) ?_
          first | refine RL.e0 (Ef.st hS 0 rfl rfl rfl (by rfl) (by rfl) (by first | exact Nat.le_of_ble_eq_true rfl | omega | (simp only [wr_size]; omega))) ?_ | refine RL.e0 (Ef.st hS 1 rfl rfl rfl (by rfl) (by rfl) (by first | exact Nat.le_of_ble_eq_true rfl | omega | (simp only [wr_size]; omega))) ?_ | refine RL.e0 (Ef.st hS 2 rfl rfl rfl (by rfl) (by rfl) (by first | exact Nat.le_of_ble_eq_true rfl | omega | (simp only [wr_size]; omega))) ?_ | refine RL.e0 (Ef.st hS 3 rfl rfl rfl (by rfl) (by rfl) (by first | exact Nat.le_of_ble_eq_true rfl | omega | (simp only [wr_size]; omega))) ?_
          intro _ w hS
          simp (disch := omega) only [List.set_cons_zero, List.set_cons_succ, cells_int', Nat.zero_add, List.set_cons_zero] at hS
          refine RL.nil ?_
          refine RE.sqN ?_
          refine RC.seq ?_
          refine RC.region rfl ?_
          refine RL.q (Qt.as rfl) ?_
          refine RL.nil ?_
          refine RE.sqN ?_
          refine RC.ret ?_
          -- stops: end ret
          refine RE.retB rfl ⟨rfl, rfl⟩ (qO_shut (cap := cap) (q := q.rem y.id) (W := W) ⟨hr, ?_, hq.pos, hq.max, ?_, ?_⟩ (hS.pick [1, 2, 3] (by decide) rfl))
          · have hm : (q.rem y.id).mask = q.mask := by unfold BQ.rem; dsimp only; rw [if_neg h2, if_neg h4]
            rw [hm]; exact hq.mw
          · have hf : (q.rem y.id).first = q.first := if_neg h2
            have hl : (q.rem y.id).last = q.last := if_neg h3
            rw [hf, hl]; exact hc4
          · have ha : (q.rem y.id).ahead = upd (upd q.ahead (q.behind y.id) (q.ahead y.id)) y.id 0 := congrArg (fun f => upd f y.id 0) (if_neg h3)
            have hb : (q.rem y.id).behind = upd (upd q.behind (q.ahead y.id) (q.behind y.id)) y.id 0 := congrArg (fun f => upd f y.id 0) (if_neg h2)
            rw [ha, hb]; exact hl3
end Go.Proofs

/- The set of layer 10 itself: Len, put, out, Put, Change, Remove. -/
import Derived.Test.YtlicnplclfclcaaRd
namespace Go.Proofs
open Go Go.Gx
variable {oo : World}

set_option maxHeartbeats 2000000 in
theorem rdLen0 (b bq bh n : Nat) (most seq : Int) (l : List KItem) (lq : List RItem) (lh : List PItem) (hI : RdI n l lq lh seq) (hn : n ≤ 1024) : Ct Try.prog 50 #[.pointer (some ⟨b, 0, none⟩)] [pt b (.cells #[.pointer (some ⟨bq, 0, none⟩), .pointer (some ⟨bh, 0, none⟩), .int .i64 n, .int .i64 most, .int .u64 seq] 130 (0, 0)), qO (.pointer (some ⟨bq, 0, none⟩)) n lq, hO (.pointer (some ⟨bh, 0, none⟩)) n lh]
    (fun v ps => v = .int .i64 l.length ∧ ps = [pt b (.cells #[.pointer (some ⟨bq, 0, none⟩), .pointer (some ⟨bh, 0, none⟩), .int .i64 n, .int .i64 most, .int .u64 seq] 130 (0, 0)), qO (.pointer (some ⟨bq, 0, none⟩)) n lq, hO (.pointer (some ⟨bh, 0, none⟩)) n lh]) := by
  refine Ct.enter Try.func50 rfl (Nat.le_of_ble_eq_true rfl) ?_
  intro oo w R hS
  change RC _ _ _ _ _ _ [(0, _)] _
  have hlen := hI.len
  have hle := hI.ok.lenLe
  refine RC.seq ?_
  refine RC.region rfl ?_
  refine RL.q (Qt.as rfl) ?_
  refine RL.nil ?_
  refine RE.sqN ?_
  refine RC.seq ?_
  refine RC.seq ?_
  refine RC.region rfl ?_
  refine RL.q (Qt.mv rfl) ?_
  refine RL.q (Qt.eqlN rfl rfl) ?_
  refine RL.nil ?_
  refine RE.sqN ?_
  -- stops: cond
  refine RC.condF rfl (rfl) ?_
  refine RC.skip ?_
  refine RE.sqN ?_
  refine RC.seq ?_
  -- stops: drawn
  refine RC.drawn 14 [0, 1, 2, 3, 4, 6, 7, 8, 9, 10, 5, 11, 12, 13] (fun w' => w'.heap[b]? = some (.cells #[.pointer (some ⟨bq, 0, none⟩), .pointer (some ⟨bh, 0, none⟩), .int .i64 n, .int .i64 most, .int .u64 seq] 130 (0, 0))) (by kernel_rfl) (by kernel_rfl) ((by first | exact hS.drew.get 0 rfl | exact hS.drew.get 1 rfl | exact hS.drew.get 2 rfl | exact hS.drew.get 3 rfl | exact hS.drew.get 4 rfl | exact hS.drew.get 5 rfl)) (fun hh => ?_)
  replace hS := hS.drew
  refine RH.q hh (Calm.sq Calm.body) rfl (by kernel_rfl) (Qt.mv rfl) ?_
  refine RH.q hh (Calm.sq Calm.body) rfl (by kernel_rfl) (Qt.nil rfl) ?_
  refine RH.q hh (Calm.sq Calm.body) rfl (by kernel_rfl) (Qt.fld rfl) ?_
  refine RH.q hh (Calm.sq Calm.body) rfl (by kernel_rfl) (Qt.fld rfl) ?_
  refine RH.q hh (Calm.sq Calm.body) rfl (by kernel_rfl) (Qt.ld rfl (fun _ h => h) (by first  | rfl)) ?_
  refine RH.q hh (Calm.sq Calm.body) rfl (by kernel_rfl) (Qt.mv rfl) ?_
  refine RH.q hh (Calm.sq Calm.body) rfl (by kernel_rfl) (Qt.nil rfl) ?_
  refine RH.q hh (Calm.sq Calm.body) rfl (by kernel_rfl) (Qt.fld rfl) ?_
  refine RH.q hh (Calm.sq Calm.body) rfl (by kernel_rfl) (Qt.fld rfl) ?_
  refine RH.q hh (Calm.sq Calm.body) rfl (by kernel_rfl) (Qt.ld rfl (fun _ h => h) (by first  | rfl)) ?_
  refine RH.e hh rfl (by kernel_rfl) (Ef.call hS (bqLen _ n lq) rfl rfl Try.call101 [1] [0, 2, 3] (by decide) rfl rfl) ?_
  rintro v10 w ⟨ps, ⟨rfl, rfl⟩, hS⟩
  refine ⟨(by first | exact hS.get 0 rfl | exact hS.get 1 rfl | exact hS.get 2 rfl | exact hS.get 3 rfl | exact hS.get 4 rfl | exact hS.get 5 rfl), ?_⟩
  refine RH.e hh rfl (by kernel_rfl) (Ef.call hS (phLen _ n lh) rfl rfl Try.call33 [2] [0, 1, 3] (by decide) rfl rfl) ?_
  rintro v16 w ⟨ps, ⟨rfl, rfl⟩, hS⟩
  refine ⟨(by first | exact hS.get 0 rfl | exact hS.get 1 rfl | exact hS.get 2 rfl | exact hS.get 3 rfl | exact hS.get 4 rfl | exact hS.get 5 rfl), ?_⟩
  refine RH.q hh (Calm.sq Calm.body) rfl (by kernel_rfl) ((by first | exact Qt.addI rfl rfl (by dsimp only [inK]; omega) | exact Qt.add rfl rfl)) ?_
  refine RH.q hh (Calm.sq Calm.body) rfl (by kernel_rfl) (Qt.as rfl) ?_
  refine RH.done hh (by kernel_rfl) ?_
  refine RL.nil ?_
  refine RE.sqN ?_
  refine RC.ret ?_
  -- stops: end ret
  refine RE.retB rfl ⟨?_, rfl⟩ (hS.pick [2, 1, 0, 3] (by decide) rfl)
  simp only [oneOf, Value.int.injEq, true_and]
  omega

set_option maxHeartbeats 2000000 in
theorem rdLen (p : Value) (n : Nat) (most B : Int) (l : List KItem) : Ct Try.prog 50 #[p] [sO p n most B l] (fun v ps => v = .int .i64 l.length ∧ ps = [sO p n most B l]) := by
  refine Ct.enter Try.func50 rfl (Nat.le_of_ble_eq_true rfl) ?_
  intro oo w R hS
  change RC _ _ _ _ _ _ [(0, _)] _
  obtain ⟨lq, lh, seq, b, bq, bh, rfl, hI, hs0, hs1, hqn, hhn, hn, hS⟩ := sO_open hS
  have hlen := hI.len
  have hle := hI.ok.lenLe
  refine RC.seq ?_
  refine RC.region rfl ?_
  refine RL.q (Qt.as rfl) ?_
  refine RL.nil ?_
  refine RE.sqN ?_
  refine RC.seq ?_
  refine RC.seq ?_
  refine RC.region rfl ?_
  refine RL.q (Qt.mv rfl) ?_
  refine RL.q (Qt.eqlN rfl rfl) ?_
  refine RL.nil ?_
  refine RE.sqN ?_
  -- stops: cond
  refine RC.condF rfl (rfl) ?_
  refine RC.skip ?_
  refine RE.sqN ?_
  refine RC.seq ?_
  -- stops: drawn
  refine RC.drawn 14 [0, 1, 2, 3, 4, 6, 7, 8, 9, 10, 5, 11, 12, 13] (fun w' => w'.heap[b]? = some (.cells #[.pointer (some ⟨bq, 0, none⟩), .pointer (some ⟨bh, 0, none⟩), .int .i64 n, .int .i64 most, .int .u64 seq] 130 (0, 0))) (by kernel_rfl) (by kernel_rfl) ((by first | exact hS.drew.get 0 rfl | exact hS.drew.get 1 rfl | exact hS.drew.get 2 rfl | exact hS.drew.get 3 rfl | exact hS.drew.get 4 rfl | exact hS.drew.get 5 rfl)) (fun hh => ?_)
  replace hS := hS.drew
  refine RH.q hh (Calm.sq Calm.body) rfl (by kernel_rfl) (Qt.mv rfl) ?_
  refine RH.q hh (Calm.sq Calm.body) rfl (by kernel_rfl) (Qt.nil rfl) ?_
  refine RH.q hh (Calm.sq Calm.body) rfl (by kernel_rfl) (Qt.fld rfl) ?_
  refine RH.q hh (Calm.sq Calm.body) rfl (by kernel_rfl) (Qt.fld rfl) ?_
  refine RH.q hh (Calm.sq Calm.body) rfl (by kernel_rfl) (Qt.ld rfl (fun _ h => h) (by first  | rfl)) ?_
  refine RH.q hh (Calm.sq Calm.body) rfl (by kernel_rfl) (Qt.mv rfl) ?_
  refine RH.q hh (Calm.sq Calm.body) rfl (by kernel_rfl) (Qt.nil rfl) ?_
  refine RH.q hh (Calm.sq Calm.body) rfl (by kernel_rfl) (Qt.fld rfl) ?_
  refine RH.q hh (Calm.sq Calm.body) rfl (by kernel_rfl) (Qt.fld rfl) ?_
  refine RH.q hh (Calm.sq Calm.body) rfl (by kernel_rfl) (Qt.ld rfl (fun _ h => h) (by first  | rfl)) ?_
  refine RH.e hh rfl (by kernel_rfl) (Ef.call hS (bqLen _ n lq) rfl rfl Try.call101 [1] [0, 2, 3] (by decide) rfl rfl) ?_
  rintro v10 w ⟨ps, ⟨rfl, rfl⟩, hS⟩
  refine ⟨(by first | exact hS.get 0 rfl | exact hS.get 1 rfl | exact hS.get 2 rfl | exact hS.get 3 rfl | exact hS.get 4 rfl | exact hS.get 5 rfl), ?_⟩
  refine RH.e hh rfl (by kernel_rfl) (Ef.call hS (phLen _ n lh) rfl rfl Try.call33 [2] [0, 1, 3] (by decide) rfl rfl) ?_
  rintro v16 w ⟨ps, ⟨rfl, rfl⟩, hS⟩
  refine ⟨(by first | exact hS.get 0 rfl | exact hS.get 1 rfl | exact hS.get 2 rfl | exact hS.get 3 rfl | exact hS.get 4 rfl | exact hS.get 5 rfl), ?_⟩
  refine RH.q hh (Calm.sq Calm.body) rfl (by kernel_rfl) ((by first | exact Qt.addI rfl rfl (by dsimp only [inK]; omega) | exact Qt.add rfl rfl)) ?_
  refine RH.q hh (Calm.sq Calm.body) rfl (by kernel_rfl) (Qt.as rfl) ?_
  refine RH.done hh (by kernel_rfl) ?_
  refine RL.nil ?_
  refine RE.sqN ?_
  refine RC.ret ?_
  -- stops: end ret
  refine RE.retB rfl ⟨?_, rfl⟩ (sO_shut hI hs0 hs1 (hS.pick [2, 1, 0, 3] (by decide) rfl))
  simp only [oneOf, Value.int.injEq, true_and]
  omega

set_option maxHeartbeats 2000000 in
theorem rdPut0 (p : Value) (n : Nat) (most B : Int) (l : List KItem) (id : Int) (k : KKey) (h0 : 0 ≤ id ∧ id < n) (hr : kRight k = true) (ho : k.ok) (hx : id ∉ kIds l) (hB : B + 1 ≤ 18446744073709551615) :
    Ct Try.prog 108 #[p, .int .i64 id, .agg k.cells.toArray] [sO p n most B l] (fun v ps => v = .tuple #[] ∧ ps = [sO p n most (B + 1) (kput ⟨id, k⟩ l)]) := by
  refine Ct.enter Try.func108 rfl (Nat.le_of_ble_eq_true rfl) ?_
  intro oo w R hS
  change RC _ _ _ _ _ _ [(0, _), (1, _), (2, _)] _
  obtain ⟨lq, lh, seq, b, bq, bh, rfl, hI, hs0, hs1, hqn, hhn, hn, hS⟩ := sO_open hS
  have hnq : id ∉ lq.map RItem.id := fun e => hx (hI.mem.2 (.inr e))
  have hnh : id ∉ pIds lh := fun e => hx (hI.mem.2 (.inl e))
  refine RC.seq ?_
  refine RC.region rfl ?_
  refine RL.e (Ef.box hS rfl) ?_
  rintro _ w ⟨b5, rfl, hS⟩
  try simp (disch := omega) only [cells_agg'] at hS
  refine RL.nil ?_
  refine RE.sqN ?_
  refine RC.seq ?_
  refine RC.seq ?_
  refine RC.region rfl ?_
  refine RL.q (Qt.fld rfl) ?_
  refine RL.q (Qt.ld rfl (by first | exact hS.at 0 rfl | exact hS.at 1 rfl | exact hS.at 2 rfl | exact hS.at 3 rfl | exact hS.at 4 rfl) (by first  | rfl)) ?_
  refine RL.nil ?_
  refine RE.sqN ?_
  -- stops: cond
  refine RC.cond rfl (fun h => ?_) (fun h => ?_)
  · skip
    have h : k.edf = true := h
    have hins : pIns lh n ⟨id, k.dl, seq + 1⟩ = pput ⟨id, k.dl, seq + 1⟩ lh := if_pos (pErr_ok0 (by omega) hnh)
    refine RC.seq ?_
    refine RC.region rfl ?_
    refine RL.q (Qt.mv rfl) ?_
    refine RL.q (Qt.nil rfl) ?_
    refine RL.q (Qt.fld rfl) ?_
    refine RL.q (Qt.ld rfl (by first | exact hS.at 0 rfl | exact hS.at 1 rfl | exact hS.at 2 rfl | exact hS.at 3 rfl | exact hS.at 4 rfl) (by first  | rfl)) ?_
    refine RL.q ((by first | exact Qt.addI rfl rfl (by dsimp only [inK]; omega) | exact Qt.add rfl rfl)) ?_
    refine RL.q (Qt.nil rfl) ?_
    refine RL.q (Qt.fld rfl) ?_
    first | refine RL.e0 (Ef.st hS 0 rfl rfl rfl (by rfl) (by rfl) (by first | exact Nat.le_of_ble_eq_true rfl | omega | (simp only [Array.size_map]; omega))) ?_ | refine RL.e0 (Ef.st hS 1 rfl rfl rfl (by rfl) (by rfl) (by first | exact Nat.le_of_ble_eq_true rfl | omega | (simp only [Array.size_map]; omega))) ?_ | refine RL.e0 (Ef.st hS 2 rfl rfl rfl (by rfl) (by rfl) (by first | exact Nat.le_of_ble_eq_true rfl | omega | (simp only [Array.size_map]; omega))) ?_ | refine RL.e0 (Ef.st hS 3 rfl rfl rfl (by rfl) (by rfl) (by first | exact Nat.le_of_ble_eq_true rfl | omega | (simp only [Array.size_map]; omega))) ?_ | refine RL.e0 (Ef.st hS 4 rfl rfl rfl (by rfl) (by rfl) (by first | exact Nat.le_of_ble_eq_true rfl | omega | (simp only [Array.size_map]; omega))) ?_
    intro _ w hS
    simp (disch := omega) only [List.set_cons_zero, List.set_cons_succ, cells_int', Nat.zero_add, wr, List.setIfInBounds_toArray] at hS
    refine RL.nil ?_
    refine RE.sqN ?_
    refine RC.seq ?_
    -- stops: drawn
    refine RC.drawn 12 [0, 1, 2, 3, 4, 5, 6, 7, 8, 9, 10, 11] (Same _) (by kernel_rfl) (by kernel_rfl) Same.drew (fun hh => ?_)
    replace hS := hS.drew
    refine RH.q hh (Calm.sq (Calm.sq Calm.body)) rfl (by kernel_rfl) (Qt.mv rfl) ?_
    refine RH.q hh (Calm.sq (Calm.sq Calm.body)) rfl (by kernel_rfl) (Qt.nil rfl) ?_
    refine RH.q hh (Calm.sq (Calm.sq Calm.body)) rfl (by kernel_rfl) (Qt.fld rfl) ?_
    refine RH.q hh (Calm.sq (Calm.sq Calm.body)) rfl (by kernel_rfl) (Qt.fld rfl) ?_
    refine RH.q hh (Calm.sq (Calm.sq Calm.body)) rfl (by kernel_rfl) (Qt.ld rfl (by first | exact hS.at 0 rfl | exact hS.at 1 rfl | exact hS.at 2 rfl | exact hS.at 3 rfl | exact hS.at 4 rfl) (by first  | rfl)) ?_
    refine RH.q hh (Calm.sq (Calm.sq Calm.body)) rfl (by kernel_rfl) (Qt.mv rfl) ?_
    refine RH.q hh (Calm.sq (Calm.sq Calm.body)) rfl (by kernel_rfl) (Qt.fld rfl) ?_
    refine RH.q hh (Calm.sq (Calm.sq Calm.body)) rfl (by kernel_rfl) (Qt.ld rfl (by first | exact hS.at 0 rfl | exact hS.at 1 rfl | exact hS.at 2 rfl | exact hS.at 3 rfl | exact hS.at 4 rfl) (by first  | rfl)) ?_
    refine RH.q hh (Calm.sq (Calm.sq Calm.body)) rfl (by kernel_rfl) (Qt.mv rfl) ?_
    refine RH.q hh (Calm.sq (Calm.sq Calm.body)) rfl (by kernel_rfl) (Qt.nil rfl) ?_
    refine RH.q hh (Calm.sq (Calm.sq Calm.body)) rfl (by kernel_rfl) (Qt.fld rfl) ?_
    refine RH.q hh (Calm.sq (Calm.sq Calm.body)) rfl (by kernel_rfl) (Qt.ld rfl (by first | exact hS.at 0 rfl | exact hS.at 1 rfl | exact hS.at 2 rfl | exact hS.at 3 rfl | exact hS.at 4 rfl) (by first  | rfl)) ?_
    refine RH.done hh (by kernel_rfl) ?_
    -- stops: op call
    refine RL.e (Ef.call hS (phInsert _ n lh ⟨id, k.dl, seq + 1⟩) rfl rfl Try.call34 [3] [0, 1, 2, 4] (by decide) rfl rfl) ?_
    rintro v27 w ⟨ps, ⟨rfl, rfl⟩, hS⟩
    refine RL.nil ?_
    refine RE.sqN ?_
    refine RC.ret ?_
    refine RE.sqR ?_
    -- stops: end ret
    rw [hins] at hS
    refine RE.retB rfl ⟨rfl, rfl⟩ (sO_shut (hI.putH h0 hr ho hx h) (by omega) (by omega) (hS.pick [2, 3, 0, 4] (by decide) rfl))
  · skip
    have h : k.edf = false := h
    have hpu : rPush lq n k.lv id = lq ++ [⟨id, k.lv⟩] := by
      have : ¬ rat lq id ≥ 0 := fun e => hnq (rat_mem.1 e)
      exact if_pos (by rw [rPushErr, if_neg (by omega), if_neg this])
    refine RC.skip ?_
    refine RE.sqN ?_
    -- stops: drawn
    refine RC.drawn 8 [0, 1, 2, 3, 4, 5, 6, 7] (Same _) (by kernel_rfl) (by kernel_rfl) Same.drew (fun hh => ?_)
    replace hS := hS.drew
    refine RH.q hh Calm.body rfl (by kernel_rfl) (Qt.mv rfl) ?_
    refine RH.q hh Calm.body rfl (by kernel_rfl) (Qt.nil rfl) ?_
    refine RH.q hh Calm.body rfl (by kernel_rfl) (Qt.fld rfl) ?_
    refine RH.q hh Calm.body rfl (by kernel_rfl) (Qt.fld rfl) ?_
    refine RH.q hh Calm.body rfl (by kernel_rfl) (Qt.ld rfl (by first | exact hS.at 0 rfl | exact hS.at 1 rfl | exact hS.at 2 rfl | exact hS.at 3 rfl | exact hS.at 4 rfl) (by first  | rfl)) ?_
    refine RH.q hh Calm.body rfl (by kernel_rfl) (Qt.fld rfl) ?_
    refine RH.q hh Calm.body rfl (by kernel_rfl) (Qt.ld rfl (by first | exact hS.at 0 rfl | exact hS.at 1 rfl | exact hS.at 2 rfl | exact hS.at 3 rfl | exact hS.at 4 rfl) (by first  | rfl)) ?_
    refine RH.q hh Calm.body rfl (by kernel_rfl) (Qt.mv rfl) ?_
    refine RH.done hh (by kernel_rfl) ?_
    -- stops: op call
    refine RL.e (Ef.call hS (bqPush _ n lq k.lv id ho.2) rfl rfl Try.call137 [2] [0, 1, 3, 4] (by decide) rfl rfl) ?_
    rintro v36 w ⟨ps, ⟨rfl, rfl⟩, hS⟩
    refine RL.nil ?_
    -- stops: end normal
    rw [hpu] at hS
    refine RE.endB rfl ⟨rfl, rfl⟩ (sO_shut (hI.putQ h0 hr ho hx h) hs0 (by omega) (hS.pick [2, 0, 3, 4] (by decide) rfl))

set_option maxHeartbeats 2000000 in
theorem rdOut0 (p : Value) (n : Nat) (most B : Int) (l : List KItem) (id : Int) (hx : id ∈ kIds l) :
    Ct Try.prog 100 #[p, .int .i64 id] [sO p n most B l] (fun v ps => v = .tuple #[] ∧ ps = [sO p n most B (kout l id)]) := by
  refine Ct.enter Try.func100 rfl (Nat.le_of_ble_eq_true rfl) ?_
  intro oo w R hS
  change RC _ _ _ _ _ _ [(0, _), (1, _)] _
  obtain ⟨lq, lh, seq, b, bq, bh, rfl, hI, hs0, hs1, hqn, hhn, hn, hS⟩ := sO_open hS
  have h0 : 0 ≤ id ∧ id < n := by
    obtain ⟨x, hx2, rfl⟩ := List.mem_map.1 hx
    exact hI.ok.range x hx2
  have hr0 : ¬ (id < 0 ∨ id ≥ n) := by omega
  refine RC.seq ?_
  refine RC.region rfl ?_
  refine RL.q (Qt.mv rfl) ?_
  refine RL.q (Qt.nil rfl) ?_
  refine RL.q (Qt.fld rfl) ?_
  refine RL.q (Qt.fld rfl) ?_
  refine RL.q (Qt.ld rfl (by first | exact hS.at 0 rfl | exact hS.at 1 rfl | exact hS.at 2 rfl | exact hS.at 3 rfl) (by first  | rfl)) ?_
  refine RL.q (Qt.mv rfl) ?_
  -- stops: op call
  refine RL.e (Ef.call hS (bqRemove _ n lq id) rfl rfl Try.call134 [1] [0, 2, 3] (by decide) rfl rfl) ?_
  rintro v10 w ⟨ps, ⟨rfl, rfl⟩, hS⟩
  refine RL.q (Qt.neq rfl rfl) ?_
  refine RL.nil ?_
  refine RE.sqN ?_
  -- stops: cond
  refine RC.cond rfl (fun h => ?_) (fun h => ?_)
  · skip
    have h : rRemErr lq n id ≠ 0 := by simpa using h
    have hnq : id ∉ lq.map RItem.id := fun e => h (by
      have : ¬ rat lq id < 0 := Int.not_lt.2 (rat_mem.2 e)
      rw [rRemErr, if_neg hr0, if_neg this])
    have hh : id ∈ pIds lh := (hI.mem.1 hx).elim (fun e => e) (fun e => absurd e hnq)
    have hd : pDel lh n id = pout lh id := if_pos (pErr_ok1 hr0 hh)
    have hq : rRem lq n id = lq := if_neg h
    refine RC.region rfl ?_
    refine RL.q (Qt.mv rfl) ?_
    refine RL.q (Qt.nil rfl) ?_
    refine RL.q (Qt.fld rfl) ?_
    refine RL.q (Qt.fld rfl) ?_
    refine RL.q (Qt.ld rfl (by first | exact hS.at 0 rfl | exact hS.at 1 rfl | exact hS.at 2 rfl | exact hS.at 3 rfl) (by first  | rfl)) ?_
    refine RL.q (Qt.mv rfl) ?_
    -- stops: op call
    refine RL.e (Ef.call hS (phDelete _ n lh id) rfl rfl Try.call31 [2] [0, 1, 3] (by decide) rfl rfl) ?_
    rintro v18 w ⟨ps, ⟨rfl, rfl⟩, hS⟩
    refine RL.nil ?_
    -- stops: end normal
    rw [hd, hq] at hS
    exact RE.endB rfl ⟨rfl, rfl⟩ (sO_shut (hI.outH hh) hs0 hs1 (hS.pick [2, 1, 0, 3] (by decide) rfl))
  · refine RC.skip ?_
    -- stops: end normal
    have h : rRemErr lq n id = 0 := by simpa using h
    have hm : 0 ≤ rat lq id := by
      rw [rRemErr, if_neg hr0] at h
      by_cases e : rat lq id < 0
      · rw [if_pos e] at h; cases h
      · omega
    have hq : rRem lq n id = rWithout lq id := by rw [rRem, if_pos h]; exact rat_out hqn hm
    rw [hq] at hS
    exact RE.endB rfl ⟨rfl, rfl⟩ (sO_shut (hI.outQ (rat_mem.1 hm) hqn) hs0 hs1 (hS.pick [1, 0, 2, 3] (by decide) rfl))

set_option maxHeartbeats 2000000 in
theorem rdPut (p : Value) (n : Nat) (most B : Int) (l : List KItem) (id : Int) (k : KKey) (ho : k.ok) (hB : B + 1 ≤ 18446744073709551615) :
    Ct Try.prog 61 #[p, .int .i64 id, .agg k.cells.toArray] [sO p n most B l] (fun v ps => v = .int .i64 (kPutErr l n most id k) ∧ ps = [sO p n most (B + 1) (kPut l n most id k)]) := by
  refine Ct.enter Try.func61 rfl (Nat.le_of_ble_eq_true rfl) ?_
  intro oo w R hS
  change RC _ _ _ _ _ _ [(0, _), (1, _), (2, _)] _
  have hkx : k.cells.toArray.extract 0 (0 + 3) = k.cells.toArray := rfl
  refine RC.seq ?_
  refine RC.region rfl ?_
  refine RL.e (Ef.box hS rfl) ?_
  rintro _ w ⟨b5, rfl, hS⟩
  try simp (disch := omega) only [cells_agg'] at hS
  refine RL.q (Qt.as rfl) ?_
  refine RL.nil ?_
  refine RE.sqN ?_
  refine RC.seq ?_
  refine RC.seq ?_
  refine RC.region rfl ?_
  refine RL.q (Qt.mv rfl) ?_
  refine RL.q (Qt.mv rfl) ?_
  refine RL.q (Qt.ldA rfl (by first | exact hS.at 0 rfl | exact hS.at 1 rfl | exact hS.at 2 rfl) (by first | exact hkx | rfl) (by first | exact Nat.le_of_ble_eq_true rfl | omega | (simp only [Array.size_map]; omega))) ?_
  -- stops: op call
  refine RL.e (Ef.call hS (kyRight k) rfl rfl Try.call104 [] [0, 1, 2] (by decide) rfl rfl) ?_
  rintro v11 w ⟨ps, ⟨rfl, rfl⟩, hS⟩
  try rw [List.nil_append] at hS
  -- stops: op call
  refine RL.e (Ef.call hS (rdMay p n most B l id (kRight k) false) rfl rfl Try.call107 [1] [0, 2] (by decide) rfl rfl) ?_
  rintro v12 w ⟨ps, ⟨rfl, rfl⟩, hS⟩
  refine RL.q (Qt.as rfl) ?_
  refine RL.nil ?_
  refine RE.sqN ?_
  refine RC.seq ?_
  refine RC.region rfl ?_
  refine RL.q (Qt.mv rfl) ?_
  refine RL.q (Qt.neq rfl rfl) ?_
  refine RL.nil ?_
  refine RE.sqN ?_
  -- stops: cond
  refine RC.cond rfl (fun h => ?_) (fun h => ?_)
  · refine RC.seq ?_
    refine RC.region rfl ?_
    refine RL.q (Qt.mv rfl) ?_
    refine RL.q (Qt.as rfl) ?_
    refine RL.nil ?_
    refine RE.sqN ?_
    refine RC.ret ?_
    refine RE.sqR ?_
    -- stops: end ret
    have h : ¬ kErr l n id (kRight k) false = 0 := by simpa using h
    have hpe : kPutErr l n most id k = kErr l n id (kRight k) false := if_neg h
    refine RE.retB rfl (ps := [sO _ n most _ _]) ⟨by rw [hpe]; rfl, rfl⟩ ?_
    rw [kPut, if_neg (by rw [hpe]; exact h)]
    exact sO_mono (by omega) (hS.pick [0, 2] (by decide) rfl)
  · skip
    have h : kErr l n id (kRight k) false = 0 := by simpa using h
    obtain ⟨a1, a2, a3⟩ := kErr_is0 h
    refine RC.skip ?_
    refine RE.sqN ?_
    refine RC.seq ?_
    refine RC.seq ?_
    -- stops: drawn
    obtain ⟨lq, lh, seq, b, bq, bh, rfl, hI, hs0, hs1, hqn, hhn, hn, hS⟩ := sO_open hS
    refine RC.drawn 7 [0, 2, 3, 4, 5, 1, 6] (fun w' => w'.heap[b]? = some (.cells #[.pointer (some ⟨bq, 0, none⟩), .pointer (some ⟨bh, 0, none⟩), .int .i64 n, .int .i64 most, .int .u64 seq] 130 (0, 0))) (by kernel_rfl) (by kernel_rfl) ((by first | exact hS.drew.get 0 rfl | exact hS.drew.get 1 rfl | exact hS.drew.get 2 rfl | exact hS.drew.get 3 rfl | exact hS.drew.get 4 rfl | exact hS.drew.get 5 rfl | exact hS.drew.get 6 rfl)) (fun hh => ?_)
    replace hS := hS.drew
    refine RH.q hh (Calm.sq (Calm.sq Calm.body)) rfl (by kernel_rfl) (Qt.mv rfl) ?_
    refine RH.q hh (Calm.sq (Calm.sq Calm.body)) rfl (by kernel_rfl) (Qt.mv rfl) ?_
    refine RH.q hh (Calm.sq (Calm.sq Calm.body)) rfl (by kernel_rfl) (Qt.nil rfl) ?_
    refine RH.q hh (Calm.sq (Calm.sq Calm.body)) rfl (by kernel_rfl) (Qt.fld rfl) ?_
    refine RH.q hh (Calm.sq (Calm.sq Calm.body)) rfl (by kernel_rfl) (Qt.ld rfl (fun _ h => h) (by first  | rfl)) ?_
    refine RH.e hh rfl (by kernel_rfl) (Ef.call hS (rdLen0 b bq bh n most seq l lq lh hI hn) rfl rfl Try.call50 [0, 1, 2] [3, 4] (by decide) rfl rfl) ?_
    rintro v17 w ⟨ps, ⟨rfl, rfl⟩, hS⟩
    refine ⟨(by first | exact hS.get 0 rfl | exact hS.get 1 rfl | exact hS.get 2 rfl | exact hS.get 3 rfl | exact hS.get 4 rfl | exact hS.get 5 rfl | exact hS.get 6 rfl), ?_⟩
    refine RH.q hh (Calm.sq (Calm.sq Calm.body)) rfl (by kernel_rfl) (Qt.geq rfl rfl) ?_
    refine RH.done hh (by kernel_rfl) ?_
    refine RL.nil ?_
    refine RE.sqN ?_
    -- stops: cond
    have hS := sO_shut hI hs0 hs1 hS
    refine RC.cond rfl (fun h2 => ?_) (fun h2 => ?_)
    · refine RC.seq ?_
      refine RC.region rfl ?_
      refine RL.q (Qt.as rfl) ?_
      refine RL.nil ?_
      refine RE.sqN ?_
      refine RC.ret ?_
      refine RE.sqR ?_
      -- stops: end ret
      have h2 : (l.length : Int) ≥ most := by simpa using h2
      have hpe : kPutErr l n most id k = 4 := by rw [kPutErr, if_pos h, if_pos h2]
      refine RE.retB rfl (ps := [sO _ n most _ _]) ⟨by rw [hpe]; rfl, rfl⟩ ?_
      rw [kPut, if_neg (by rw [hpe]; decide)]
      exact sO_mono (by omega) (hS.pick [0, 2] (by decide) rfl)
    · skip
      have h2 : ¬ (l.length : Int) ≥ most := by simpa using h2
      have hpe : kPutErr l n most id k = 0 := by rw [kPutErr, if_pos h, if_neg h2]
      refine RC.skip ?_
      refine RE.sqN ?_
      refine RC.seq ?_
      refine RC.region rfl ?_
      refine RL.q (Qt.mv rfl) ?_
      refine RL.q (Qt.mv rfl) ?_
      refine RL.q (Qt.ldA rfl (by first | exact hS.at 0 rfl | exact hS.at 1 rfl | exact hS.at 2 rfl) (by first | exact hkx | rfl) (by first | exact Nat.le_of_ble_eq_true rfl | omega | (simp only [Array.size_map]; omega))) ?_
      -- stops: op call
      refine RL.e (Ef.call hS (rdPut0 _ n most B l id k a1 a2 ho a3 hB) rfl rfl Try.call108 [0] [1, 2] (by decide) rfl rfl) ?_
      rintro v26 w ⟨ps, ⟨rfl, rfl⟩, hS⟩
      refine RL.nil ?_
      refine RE.sqN ?_
      refine RC.seq ?_
      refine RC.region rfl ?_
      refine RL.q (Qt.as rfl) ?_
      refine RL.nil ?_
      refine RE.sqN ?_
      refine RC.ret ?_
      -- stops: end ret
      refine RE.retB rfl (ps := [sO _ n most _ _]) ⟨by rw [hpe]; rfl, rfl⟩ ?_
      rw [kPut, if_pos hpe]
      exact hS.pick [0, 2] (by decide) rfl

set_option maxHeartbeats 2000000 in
theorem rdChange (p : Value) (n : Nat) (most B : Int) (l : List KItem) (id : Int) (k : KKey) (ho : k.ok) (hB : B + 1 ≤ 18446744073709551615) :
    Ct Try.prog 60 #[p, .int .i64 id, .agg k.cells.toArray] [sO p n most B l] (fun v ps => v = .int .i64 (kErr l n id (kRight k) true) ∧ ps = [sO p n most (B + 1) (kChg l n id k)]) := by
  refine Ct.enter Try.func60 rfl (Nat.le_of_ble_eq_true rfl) ?_
  intro oo w R hS
  change RC _ _ _ _ _ _ [(0, _), (1, _), (2, _)] _
  have hkx : k.cells.toArray.extract 0 (0 + 3) = k.cells.toArray := rfl
  have hkw : ∀ k : KKey, (wr #[.bool false, .int .u64 0, .int .u8 0] 0 k.cells).extract 0 (0 + 3) = k.cells.toArray := fun k => rfl
  refine RC.seq ?_
  refine RC.region rfl ?_
  refine RL.e (Ef.box hS rfl) ?_
  rintro _ w ⟨b5, rfl, hS⟩
  try simp (disch := omega) only [cells_agg'] at hS
  refine RL.q (Qt.as rfl) ?_
  refine RL.nil ?_
  refine RE.sqN ?_
  refine RC.seq ?_
  refine RC.seq ?_
  refine RC.region rfl ?_
  refine RL.q (Qt.mv rfl) ?_
  refine RL.q (Qt.mv rfl) ?_
  refine RL.q (Qt.ldA rfl (by first | exact hS.at 0 rfl | exact hS.at 1 rfl | exact hS.at 2 rfl) (by first | exact hkx | exact hkw _ | rfl) (by first | exact Nat.le_of_ble_eq_true rfl | omega | (simp only [Array.size_map]; omega))) ?_
  -- stops: op call
  refine RL.e (Ef.call hS (kyRight k) rfl rfl Try.call104 [] [0, 1, 2] (by decide) rfl rfl) ?_
  rintro v13 w ⟨ps, ⟨rfl, rfl⟩, hS⟩
  try rw [List.nil_append] at hS
  -- stops: op call
  refine RL.e (Ef.call hS (rdMay p n most B l id (kRight k) true) rfl rfl Try.call107 [1] [0, 2] (by decide) rfl rfl) ?_
  rintro v14 w ⟨ps, ⟨rfl, rfl⟩, hS⟩
  refine RL.q (Qt.as rfl) ?_
  refine RL.nil ?_
  refine RE.sqN ?_
  refine RC.seq ?_
  refine RC.region rfl ?_
  refine RL.q (Qt.mv rfl) ?_
  refine RL.q (Qt.neq rfl rfl) ?_
  refine RL.nil ?_
  refine RE.sqN ?_
  -- stops: cond
  refine RC.cond rfl (fun h => ?_) (fun h => ?_)
  · refine RC.seq ?_
    refine RC.region rfl ?_
    refine RL.q (Qt.mv rfl) ?_
    refine RL.q (Qt.as rfl) ?_
    refine RL.nil ?_
    refine RE.sqN ?_
    refine RC.ret ?_
    refine RE.sqR ?_
    -- stops: end ret
    have h : ¬ kErr l n id (kRight k) true = 0 := by simpa using h
    refine RE.retB rfl (ps := [sO _ n most _ _]) ⟨rfl, rfl⟩ ?_
    rw [kChg, if_neg (fun e => h e.1)]
    exact sO_mono (by omega) (hS.pick [0, 2] (by decide) rfl)
  · skip
    have h : kErr l n id (kRight k) true = 0 := by simpa using h
    obtain ⟨a1, a2, a3⟩ := kErr_is1 h
    refine RC.skip ?_
    refine RE.sqN ?_
    refine RC.seq ?_
    refine RC.seq ?_
    refine RC.region rfl ?_
    refine RL.q (Qt.mv rfl) ?_
    refine RL.q (Qt.mv rfl) ?_
    -- stops: op call
    refine RL.e (Ef.call hS (rdKey p n most B l id) rfl rfl Try.call59 [0] [1, 2] (by decide) rfl rfl) ?_
    rintro v21 w ⟨ps, ⟨rfl, rfl⟩, hS⟩
    refine RL.q (Qt.mv rfl) ?_
    refine RL.q (Qt.ext rfl rfl) ?_
    refine RL.q (Qt.ext rfl rfl) ?_
    refine RL.e (Ef.alloc hS) ?_
    rintro _ w ⟨b8, rfl, hS⟩
    try simp (disch := omega) only [cells_agg'] at hS
    first | refine RL.e0 (Ef.st hS 0 rfl rfl rfl (by rfl) (by rfl) (by first | exact Nat.le_of_ble_eq_true rfl | omega | (simp only [Array.size_map]; omega))) ?_ | refine RL.e0 (Ef.st hS 1 rfl rfl rfl (by rfl) (by rfl) (by first | exact Nat.le_of_ble_eq_true rfl | omega | (simp only [Array.size_map]; omega))) ?_ | refine RL.e0 (Ef.st hS 2 rfl rfl rfl (by rfl) (by rfl) (by first | exact Nat.le_of_ble_eq_true rfl | omega | (simp only [Array.size_map]; omega))) ?_ | refine RL.e0 (Ef.st hS 3 rfl rfl rfl (by rfl) (by rfl) (by first | exact Nat.le_of_ble_eq_true rfl | omega | (simp only [Array.size_map]; omega))) ?_
    intro _ w hS
    simp (disch := omega) only [List.set_cons_zero, cells_agg'] at hS
    refine RL.q (Qt.as rfl) ?_
    refine RL.nil ?_
    refine RE.sqN ?_
    refine RC.seq ?_
    refine RC.region rfl ?_
    refine RL.q (Qt.ldA rfl (by first | exact hS.at 0 rfl | exact hS.at 1 rfl | exact hS.at 2 rfl | exact hS.at 3 rfl) (by first | exact hkx | exact hkw _ | rfl) (by first | exact Nat.le_of_ble_eq_true rfl | omega | (simp only [Array.size_map]; omega))) ?_
    refine RL.q (Qt.ldA rfl (by first | exact hS.at 0 rfl | exact hS.at 1 rfl | exact hS.at 2 rfl | exact hS.at 3 rfl) (by first | exact hkx | exact hkw _ | rfl) (by first | exact Nat.le_of_ble_eq_true rfl | omega | (simp only [Array.size_map]; omega))) ?_
    refine RL.q (Qt.neqT rfl rfl (keyEq (kGetK l id) k)) ?_
    refine RL.nil ?_
    refine RE.sqN ?_
    -- stops: cond
    refine RC.cond rfl (fun h3 => ?_) (fun h3 => ?_)
    · skip
      have h3 : kGetK l id ≠ k := by simpa using h3
      have hx2 : id ∉ kIds (kout l id) := by rw [mem_kout_ids]; simp
      refine RC.seq ?_
      refine RC.region rfl ?_
      refine RL.q (Qt.mv rfl) ?_
      refine RL.q (Qt.mv rfl) ?_
      -- stops: op call
      refine RL.e (Ef.call hS (rdOut0 p n most B l id a3) rfl rfl Try.call100 [1] [0, 2, 3] (by decide) rfl rfl) ?_
      rintro v29 w ⟨ps, ⟨rfl, rfl⟩, hS⟩
      refine RL.nil ?_
      refine RE.sqN ?_
      refine RC.region rfl ?_
      refine RL.q (Qt.mv rfl) ?_
      refine RL.q (Qt.mv rfl) ?_
      refine RL.q (Qt.ldA rfl (by first | exact hS.at 0 rfl | exact hS.at 1 rfl | exact hS.at 2 rfl | exact hS.at 3 rfl) (by first | exact hkx | exact hkw _ | rfl) (by first | exact Nat.le_of_ble_eq_true rfl | omega | (simp only [Array.size_map]; omega))) ?_
      -- stops: op call
      refine RL.e (Ef.call hS (rdPut0 p n most B (kout l id) id k a1 a2 ho hx2 hB) rfl rfl Try.call108 [0] [1, 2, 3] (by decide) rfl rfl) ?_
      rintro v33 w ⟨ps, ⟨rfl, rfl⟩, hS⟩
      refine RL.nil ?_
      refine RE.sqN ?_
      refine RC.seq ?_
      refine RC.region rfl ?_
      refine RL.q (Qt.as rfl) ?_
      refine RL.nil ?_
      refine RE.sqN ?_
      refine RC.ret ?_
      -- stops: end ret
      refine RE.retB rfl (ps := [sO _ n most _ _]) ⟨by rw [h]; rfl, rfl⟩ ?_
      rw [kChg, if_pos ⟨h, h3⟩]
      exact hS.pick [0, 3] (by decide) rfl
    · refine RC.skip ?_
      refine RE.sqN ?_
      refine RC.seq ?_
      refine RC.region rfl ?_
      refine RL.q (Qt.as rfl) ?_
      refine RL.nil ?_
      refine RE.sqN ?_
      refine RC.ret ?_
      -- stops: end ret
      have h3 : kGetK l id = k := by simpa using h3
      refine RE.retB rfl (ps := [sO _ n most _ _]) ⟨by rw [h]; rfl, rfl⟩ ?_
      rw [kChg, if_neg (fun e => e.2 h3)]
      exact sO_mono (by omega) (hS.pick [1, 3] (by decide) rfl)

set_option maxHeartbeats 2000000 in
theorem rdRemove (p : Value) (n : Nat) (most B : Int) (l : List KItem) (id : Int) :
    Ct Try.prog 62 #[p, .int .i64 id] [sO p n most B l] (fun v ps => v = .int .i64 (kErr l n id true true) ∧ ps = [sO p n most B (kRem l n id)]) := by
  refine Ct.enter Try.func62 rfl (Nat.le_of_ble_eq_true rfl) ?_
  intro oo w R hS
  change RC _ _ _ _ _ _ [(0, _), (1, _)] _
  refine RC.seq ?_
  refine RC.region rfl ?_
  refine RL.q (Qt.as rfl) ?_
  refine RL.nil ?_
  refine RE.sqN ?_
  refine RC.seq ?_
  refine RC.region rfl ?_
  refine RL.q (Qt.mv rfl) ?_
  refine RL.q (Qt.mv rfl) ?_
  -- stops: op call
  refine RL.e (Ef.call hS (rdMay p n most B l id true true) rfl rfl Try.call107 [0] [1] (by decide) rfl rfl) ?_
  rintro v8 w ⟨ps, ⟨rfl, rfl⟩, hS⟩
  refine RL.q (Qt.as rfl) ?_
  refine RL.nil ?_
  refine RE.sqN ?_
  refine RC.seq ?_
  refine RC.seq ?_
  refine RC.region rfl ?_
  refine RL.q (Qt.mv rfl) ?_
  refine RL.q (Qt.eql rfl rfl) ?_
  refine RL.nil ?_
  refine RE.sqN ?_
  -- stops: cond
  refine RC.cond rfl (fun h => ?_) (fun h => ?_)
  · skip
    have h : kErr l n id true true = 0 := by simpa using h
    obtain ⟨a1, a2, a3⟩ := kErr_is1 h
    refine RC.region rfl ?_
    refine RL.q (Qt.mv rfl) ?_
    refine RL.q (Qt.mv rfl) ?_
    -- stops: op call
    refine RL.e (Ef.call hS (rdOut0 p n most B l id a3) rfl rfl Try.call100 [0] [1] (by decide) rfl rfl) ?_
    rintro v13 w ⟨ps, ⟨rfl, rfl⟩, hS⟩
    refine RL.nil ?_
    refine RE.sqN ?_
    refine RC.seq ?_
    refine RC.region rfl ?_
    refine RL.q (Qt.mv rfl) ?_
    refine RL.q (Qt.as rfl) ?_
    refine RL.nil ?_
    refine RE.sqN ?_
    refine RC.ret ?_
    -- stops: end ret
    exact RE.retB rfl ⟨rfl, by rw [kRem, if_pos h]⟩ hS
  · refine RC.skip ?_
    refine RE.sqN ?_
    refine RC.seq ?_
    refine RC.region rfl ?_
    refine RL.q (Qt.mv rfl) ?_
    refine RL.q (Qt.as rfl) ?_
    refine RL.nil ?_
    refine RE.sqN ?_
    refine RC.ret ?_
    -- stops: end ret
    have h : ¬ kErr l n id true true = 0 := by simpa using h
    exact RE.retB rfl ⟨rfl, by rw [kRem, if_neg h]⟩ hS
end Go.Proofs

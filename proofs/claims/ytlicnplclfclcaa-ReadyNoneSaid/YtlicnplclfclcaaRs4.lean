/- The reference's set of layer 10: Change, Remove, Top, Take, Key, New. -/
import Derived.Test.YtlicnplclfclcaaRs3
namespace Go.Proofs
open Go Go.Gx
variable {oo : World}

theorem kix_in {l : List KItem} {id : Int} (h : id ∈ kIds l) : 0 ≤ ixOf (l.map KItem.id) id ∧ ixOf (l.map KItem.id) id < l.length := by
  have := ixOf_range (l.map KItem.id) id
  rw [List.length_map] at this
  exact ⟨ixOf_mem.2 h, this.2⟩
theorem kix_id {l : List KItem} {id : Int} (h : id ∈ kIds l) (hlt : (ixOf (l.map KItem.id) id).toNat < l.length) : l[(ixOf (l.map KItem.id) id).toNat].id = id := by
  rcases ixOf_spec (l.map KItem.id) id with ⟨h1, _⟩ | ⟨i, hi, h1, h2, _⟩
  · exact absurd h h1
  · simp only [h1, Int.toNat_natCast]
    simpa using h2
theorem kix_key {l : List KItem} (hn : (kIds l).Nodup) {id : Int} (h : id ∈ kIds l) (hlt : (ixOf (l.map KItem.id) id).toNat < l.length) : l[(ixOf (l.map KItem.id) id).toNat].k = kGetK l id := by
  have h1 := kGetK_some hn (List.getElem_mem hlt)
  rw [kix_id h hlt] at h1
  exact h1.1.symm

set_option maxHeartbeats 2000000 in
theorem rsChange (p : Value) (n : Nat) (most : Int) (l : List KItem) (id : Int) (k : KKey) (hlen : l.length < 1000000) (hnd : (kIds l).Nodup) : Ct Try.prog 111 #[p, .int .i64 id, .agg k.cells.toArray] [rsO p n most l] (fun v ps => v = .int .i64 (kErr l n id (kRight k) true) ∧ ps = [rsO p n most (kChg l n id k)]) := by
  refine Ct.enter Try.func111 rfl (Nat.le_of_ble_eq_true rfl) ?_
  intro oo w R hS
  change RC _ _ _ _ _ _ [(0, _), (1, _), (2, _)] _
  obtain ⟨b, sp, cap, rfl, hl, hS⟩ := rsO_open hS
  have hkx : k.cells.toArray.extract 0 (0 + 3) = k.cells.toArray := rfl
  refine RC.seq ?_
  refine RC.region rfl ?_
  refine RL.e (Ef.box hS rfl) ?_
  rintro _ w ⟨b5, rfl, hS⟩
  try simp (disch := omega) only [cells_agg'] at hS
  refine RL.q (Qt.as rfl) ?_
  refine RL.nil ?_
  refine RE.sqN ?_
  refine RC.seq ?_
  refine RC.block ?_
  refine RC.seq ?_
  refine RC.region rfl ?_
  refine RL.q (Qt.mv rfl) ?_
  refine RL.q (Qt.eqlN rfl rfl) ?_
  refine RL.q (Qt.as rfl) ?_
  refine RL.nil ?_
  refine RE.sqN ?_
  -- stops: cond
  by_cases hr : id < 0 ∨ id ≥ n
  · have hg := krange_or hr
    refine RC.condF rfl (rfl) ?_
    refine RC.seq ?_
    refine RC.region rfl ?_
    refine RL.q (Qt.mv rfl) ?_
    refine RL.q (Qt.lss rfl rfl) ?_
    refine RL.q (Qt.mv rfl) ?_
    refine RLG.start 14 false rfl ?_
    refine RLG.q rfl rfl rfl (fun _ => Qt.mv rfl) ?_
    refine RLG.q rfl rfl rfl (fun _ => Qt.mv rfl) ?_
    refine RLG.q rfl rfl rfl (fun _ => Qt.nil rfl) ?_
    refine RLG.q rfl rfl rfl (fun _ => Qt.fld rfl) ?_
    refine RLG.q rfl rfl rfl (fun hg => by (try simp only [decide_eq_false_iff_not] at hg); exact Qt.ld rfl (by first | exact hS.at 0 rfl | exact hS.at 1 rfl | exact hS.at 2 rfl | exact hS.at 3 rfl) (by first  | rfl)) ?_
    refine RLG.q rfl rfl rfl (fun hg => by (try simp only [decide_eq_false_iff_not] at hg); exact Qt.geq rfl rfl) ?_
    refine RLG.or rfl rfl ?_
    refine RL.q (Qt.mv rfl) ?_
    refine RL.s (Skips.guard rfl rfl rfl (hg)) ?_
    refine RL.s (Skips.guard rfl rfl rfl (hg)) ?_
    refine RL.s (Skips.guard rfl rfl rfl (hg)) ?_
    refine RL.q ((by first | exact Qt.pickT rfl (by assumption) rfl | exact Qt.pickF rfl (by assumption) rfl | exact Qt.pickT rfl rfl rfl | exact Qt.pickF rfl rfl rfl)) ?_
    refine RL.q (Qt.as rfl) ?_
    refine RL.nil ?_
    refine RE.sqN ?_
    -- stops: cond
    refine RC.condT rfl (rfl) ?_
    refine RC.seq ?_
    refine RC.region rfl ?_
    refine RL.q (Qt.as rfl) ?_
    refine RL.nil ?_
    refine RE.sqN ?_
    refine RC.ret ?_
    refine RE.bkR ?_
    refine RE.sqR ?_
    -- stops: end ret
    have he : kErr l n id (kRight k) true = 2 := kErr_range (by omega)
    refine RE.retB rfl (ps := [rsO _ n most _]) ⟨by rw [he]; rfl, rfl⟩ ?_
    rw [kChg, he, if_neg (fun e => absurd e.1 (by decide))]
    exact rsO_shut hl (hS.pick [1, 2, 3] (by decide) rfl)
  · have hg := krange_nor hr
    refine RC.condF rfl (rfl) ?_
    refine RC.seq ?_
    refine RC.region rfl ?_
    refine RL.q (Qt.mv rfl) ?_
    refine RL.q (Qt.lss rfl rfl) ?_
    refine RL.q (Qt.mv rfl) ?_
    refine RLG.start 14 false rfl ?_
    refine RLG.q rfl rfl rfl (fun _ => Qt.mv rfl) ?_
    refine RLG.q rfl rfl rfl (fun _ => Qt.mv rfl) ?_
    refine RLG.q rfl rfl rfl (fun _ => Qt.nil rfl) ?_
    refine RLG.q rfl rfl rfl (fun _ => Qt.fld rfl) ?_
    refine RLG.q rfl rfl rfl (fun hg => by (try simp only [decide_eq_false_iff_not] at hg); exact Qt.ld rfl (by first | exact hS.at 0 rfl | exact hS.at 1 rfl | exact hS.at 2 rfl | exact hS.at 3 rfl) (by first  | rfl)) ?_
    refine RLG.q rfl rfl rfl (fun hg => by (try simp only [decide_eq_false_iff_not] at hg); exact Qt.geq rfl rfl) ?_
    refine RLG.or rfl rfl ?_
    refine RL.q (Qt.mv rfl) ?_
    refine RL.q (Qt.ldA rfl (by first | exact hS.at 0 rfl | exact hS.at 1 rfl | exact hS.at 2 rfl | exact hS.at 3 rfl) (by first | exact hkx | rfl) (by first | exact Nat.le_of_ble_eq_true rfl | omega | (simp only [Array.size_map]; omega))) ?_ (Runs.guard rfl rfl rfl (hg))
    -- stops: op call
    refine RL.e (Ef.call hS (rkRight k) rfl rfl Try.call139 [] [0, 1, 2, 3] (by decide) rfl rfl) ?_ (Runs.guard rfl rfl rfl (hg))
    rintro v24 w ⟨ps, ⟨rfl, rfl⟩, hS⟩
    try rw [List.nil_append] at hS
    refine RL.q (Qt.not rfl) ?_ (Runs.guard rfl rfl rfl (hg))
    refine RL.q ((by first | exact Qt.pickT rfl (by assumption) rfl | exact Qt.pickF rfl (by assumption) rfl | exact Qt.pickT rfl rfl rfl | exact Qt.pickF rfl rfl rfl)) ?_
    refine RL.q (Qt.as rfl) ?_
    refine RL.nil ?_
    refine RE.sqN ?_
    -- stops: cond
    refine RC.cond rfl (fun h => ?_) (fun h => ?_)
    · refine RC.seq ?_
      refine RC.region rfl ?_
      refine RL.q (Qt.as rfl) ?_
      refine RL.nil ?_
      refine RE.sqN ?_
      refine RC.ret ?_
      refine RE.bkR ?_
      refine RE.sqR ?_
      -- stops: end ret
      have h : kRight k = false := by simpa using h
      have he : kErr l n id (kRight k) true = 2 := kErr_range (.inr (.inr h))
      refine RE.retB rfl (ps := [rsO _ n most _]) ⟨by rw [he]; rfl, rfl⟩ ?_
      rw [kChg, he, if_neg (fun e => absurd e.1 (by decide))]
      exact rsO_shut hl (hS.pick [1, 2, 3] (by decide) rfl)
    · skip
      have h : kRight k = true := by simpa using h
      have hr : ¬ (id < 0 ∨ id ≥ n ∨ kRight k = false) := by rw [h]; simpa using hr
      have hS := rsO_shut hl (hS.pick [1, 2, 0, 3] (by decide) rfl)
      refine RC.seq ?_
      refine RC.region rfl ?_
      refine RL.q (Qt.mv rfl) ?_
      refine RL.q (Qt.mv rfl) ?_
      -- stops: op call
      refine RL.e (Ef.call hS (rsAt _ n most l id) rfl rfl Try.call132 [0] [1, 2] (by decide) rfl rfl) ?_
      rintro v30 w ⟨ps, ⟨rfl, rfl⟩, hS⟩
      refine RL.q (Qt.lss rfl rfl) ?_
      refine RL.q (Qt.as rfl) ?_
      refine RL.nil ?_
      refine RE.sqN ?_
      -- stops: cond
      refine RC.cond rfl (fun h2 => ?_) (fun h2 => ?_)
      · refine RC.seq ?_
        refine RC.region rfl ?_
        refine RL.q (Qt.as rfl) ?_
        refine RL.nil ?_
        refine RE.sqN ?_
        refine RC.ret ?_
        refine RE.bkR ?_
        refine RE.sqR ?_
        -- stops: end ret
        have h2 : id ∉ kIds l := ixOf_neg.1 (of_decide_eq_true h2)
        have he := kErr_none hr h2
        refine RE.retB rfl (ps := [rsO _ n most _]) ⟨by rw [he]; rfl, rfl⟩ ?_
        rw [kChg, he, if_neg (fun e => absurd e.1 (by decide))]
        exact hS.pick [0, 2] (by decide) rfl
      · skip
        have h2 : id ∈ kIds l := ixOf_mem.1 (Int.not_lt.1 (of_decide_eq_false h2))
        have he := kErr_ok1 hr h2
        have hix := kix_in h2
        have hlt : (ixOf (l.map KItem.id) id).toNat < l.length := by omega
        have hkk := kix_key hnd h2 hlt
        have hel : (l.eraseIdx (ixOf (l.map KItem.id) id).toNat) = kout l id := kout_erase hnd h2
        have hol := kout_len hnd h2
        refine RC.skip ?_
        refine RE.bkN ?_
        refine RE.sqN ?_
        refine RC.seq ?_
        refine RC.region rfl ?_
        refine RL.q (Qt.mv rfl) ?_
        refine RL.q (Qt.mv rfl) ?_
        -- stops: op call
        refine RL.e (Ef.call hS (rsAt _ n most l id) rfl rfl Try.call132 [0] [1, 2] (by decide) rfl rfl) ?_
        rintro v34 w ⟨ps, ⟨rfl, rfl⟩, hS⟩
        obtain ⟨b2, sp, cap, hb, hl, hS⟩ := rsO_open hS
        cases hb
        have hS1 := hS
        obtain ⟨bs, cap', c, hv, hc1, hc2, hc3, hc4, hS⟩ := hS.ownPos 1 rfl (by omega)
        cases hv
        have hrow := row_part (f := KItem.cells) (sz := 4) (vs := (kGetK l id).cells.toArray) (a := 1) (n := 3) (fun _ => rfl) hc4 rfl (by rw [hc1]; exact Nat.mul_le_mul_right _ hc2) hlt (by rw [← hkk]; rfl) (by decide) (k := 0 + (ixOf (l.map KItem.id) id).toNat * 4 + 1) (by omega) rfl
        refine RL.q (Qt.as rfl) ?_
        refine RL.nil ?_
        refine RE.sqN ?_
        refine RC.seq ?_
        refine RC.seq ?_
        refine RC.drawn 10 [0, 1, 2, 3, 4, 5, 6, 7, 8, 9] (Same _) (by kernel_rfl) (by kernel_rfl) Same.drew (fun hh => ?_)
        replace hS := hS.drew
        refine RH.q hh (Calm.sq (Calm.sq Calm.body)) rfl (by kernel_rfl) (Qt.mv rfl) ?_
        refine RH.q hh (Calm.sq (Calm.sq Calm.body)) rfl (by kernel_rfl) (Qt.nil rfl) ?_
        refine RH.q hh (Calm.sq (Calm.sq Calm.body)) rfl (by kernel_rfl) (Qt.fld rfl) ?_
        refine RH.q hh (Calm.sq (Calm.sq Calm.body)) rfl (by kernel_rfl) (Qt.ld rfl (by first | exact hS.at 0 rfl | exact hS.at 1 rfl | exact hS.at 2 rfl | exact hS.at 3 rfl) (by first  | rfl)) ?_
        refine RH.q hh (Calm.sq (Calm.sq Calm.body)) rfl (by kernel_rfl) (Qt.mv rfl) ?_
        refine RH.q hh (Calm.sq (Calm.sq Calm.body)) rfl (by kernel_rfl) (Qt.ixS rfl rfl (by first | assumption | omega | (dsimp only; omega)) (by first | assumption | omega | (dsimp only; omega))) ?_
        refine RH.q hh (Calm.sq (Calm.sq Calm.body)) rfl (by kernel_rfl) (Qt.fld rfl) ?_
        refine RH.q hh (Calm.sq (Calm.sq Calm.body)) rfl (by kernel_rfl) (Qt.ldA rfl (by first | exact hS.at 0 rfl | exact hS.at 1 rfl | exact hS.at 2 rfl | exact hS.at 3 rfl) (by first | exact hrow | exact hkx | rfl) (by first | exact Nat.le_of_ble_eq_true rfl | omega | (simp only [Array.size_map]; omega))) ?_
        refine RH.q hh (Calm.sq (Calm.sq Calm.body)) rfl (by kernel_rfl) (Qt.ldA rfl (by first | exact hS.at 0 rfl | exact hS.at 1 rfl | exact hS.at 2 rfl | exact hS.at 3 rfl) (by first | exact hrow | exact hkx | rfl) (by first | exact Nat.le_of_ble_eq_true rfl | omega | (simp only [Array.size_map]; omega))) ?_
        refine RH.q hh (Calm.sq (Calm.sq Calm.body)) rfl (by kernel_rfl) (Qt.neqT rfl rfl (keyEq (kGetK l id) k)) ?_
        refine RH.done hh (by kernel_rfl) ?_
        refine RL.nil ?_
        refine RE.sqN ?_
        -- stops: cond
        have hS := rsO_shut hl hS1.drew
        refine RC.cond rfl (fun h3 => ?_) (fun h3 => ?_)
        · skip
          have h3 : kGetK l id ≠ k := by simpa using h3
          refine RC.seq ?_
          refine RC.region rfl ?_
          refine RL.q (Qt.mv rfl) ?_
          refine RL.q (Qt.mv rfl) ?_
          -- stops: op call
          refine RL.e (Ef.call hS (rsOut _ n most l _ hix.1 hix.2) rfl rfl Try.call141 [0] [1, 2] (by decide) rfl rfl) ?_
          rintro v47 w ⟨ps, ⟨rfl, rfl⟩, hS⟩
          rw [hel] at hS
          refine RL.nil ?_
          refine RE.sqN ?_
          refine RC.region rfl ?_
          refine RL.q (Qt.mv rfl) ?_
          refine RL.q (Qt.mv rfl) ?_
          refine RL.q (Qt.ldA rfl (by first | exact hS.at 0 rfl | exact hS.at 1 rfl | exact hS.at 2 rfl) (by first | exact hrow | exact hkx | rfl) (by first | exact Nat.le_of_ble_eq_true rfl | omega | (simp only [Array.size_map]; omega))) ?_
          refine RL.q (Qt.bldV [.tmp 49, .tmp 50] rfl rfl (by kernel_rfl)) ?_
          -- stops: op call
          refine RL.e (Ef.call hS (rsPut0 _ n most (kout l id) ⟨id, k⟩ (by omega)) rfl rfl Try.call140 [0] [1, 2] (by decide) rfl rfl) ?_
          rintro v52 w ⟨ps, ⟨rfl, rfl⟩, hS⟩
          refine RL.nil ?_
          refine RE.sqN ?_
          refine RC.seq ?_
          refine RC.region rfl ?_
          refine RL.q (Qt.as rfl) ?_
          refine RL.nil ?_
          refine RE.sqN ?_
          refine RC.ret ?_
          -- stops: end ret
          refine RE.retB rfl (ps := [rsO _ n most _]) ⟨by rw [he]; rfl, rfl⟩ ?_
          rw [kChg, if_pos ⟨he, h3⟩]
          exact hS.pick [0, 2] (by decide) rfl
        · refine RC.skip ?_
          refine RE.sqN ?_
          refine RC.seq ?_
          refine RC.region rfl ?_
          refine RL.q (Qt.as rfl) ?_
          refine RL.nil ?_
          refine RE.sqN ?_
          refine RC.ret ?_
          -- stops: end ret
          have h3 : kGetK l id = k := by simpa using h3
          refine RE.retB rfl (ps := [rsO _ n most _]) ⟨by rw [he]; rfl, rfl⟩ ?_
          rw [kChg, if_neg (fun e => e.2 h3)]
          exact hS.pick [0, 2] (by decide) rfl

set_option maxHeartbeats 2000000 in
theorem rsRemove (p : Value) (n : Nat) (most : Int) (l : List KItem) (id : Int) (hnd : (kIds l).Nodup) : Ct Try.prog 112 #[p, .int .i64 id] [rsO p n most l] (fun v ps => v = .int .i64 (kErr l n id true true) ∧ ps = [rsO p n most (kRem l n id)]) := by
  refine Ct.enter Try.func112 rfl (Nat.le_of_ble_eq_true rfl) ?_
  intro oo w R hS
  change RC _ _ _ _ _ _ [(0, _), (1, _)] _
  obtain ⟨b, sp, cap, rfl, hl, hS⟩ := rsO_open hS
  refine RC.seq ?_
  refine RC.region rfl ?_
  refine RL.q (Qt.as rfl) ?_
  refine RL.nil ?_
  refine RE.sqN ?_
  refine RC.seq ?_
  refine RC.block ?_
  refine RC.seq ?_
  refine RC.region rfl ?_
  refine RL.q (Qt.mv rfl) ?_
  refine RL.q (Qt.eqlN rfl rfl) ?_
  refine RL.q (Qt.as rfl) ?_
  refine RL.nil ?_
  refine RE.sqN ?_
  -- stops: cond
  refine RC.condF rfl (rfl) ?_
  refine RC.seq ?_
  refine RC.region rfl ?_
  refine RL.q (Qt.mv rfl) ?_
  refine RL.q (Qt.lss rfl rfl) ?_
  refine RL.q (Qt.mv rfl) ?_
  refine RLG.start 11 false rfl ?_
  refine RLG.q rfl rfl rfl (fun _ => Qt.mv rfl) ?_
  refine RLG.q rfl rfl rfl (fun _ => Qt.mv rfl) ?_
  refine RLG.q rfl rfl rfl (fun _ => Qt.nil rfl) ?_
  refine RLG.q rfl rfl rfl (fun _ => Qt.fld rfl) ?_
  refine RLG.q rfl rfl rfl (fun hg => by (try simp only [decide_eq_false_iff_not] at hg); exact Qt.ld rfl (by first | exact hS.at 0 rfl | exact hS.at 1 rfl | exact hS.at 2 rfl) (by first  | rfl)) ?_
  refine RLG.q rfl rfl rfl (fun hg => by (try simp only [decide_eq_false_iff_not] at hg); exact Qt.geq rfl rfl) ?_
  refine RLG.or rfl rfl ?_
  refine RL.q (Qt.as rfl) ?_
  refine RL.nil ?_
  refine RE.sqN ?_
  -- stops: cond
  have hS := rsO_shut hl hS
  refine RC.cond rfl (fun h => ?_) (fun h => ?_)
  · refine RC.seq ?_
    refine RC.region rfl ?_
    refine RL.q (Qt.as rfl) ?_
    refine RL.nil ?_
    refine RE.sqN ?_
    refine RC.ret ?_
    refine RE.bkR ?_
    refine RE.sqR ?_
    -- stops: end ret
    have h : id < 0 ∨ id ≥ n := by simpa using h
    have he : kErr l n id true true = 2 := kErr_range (by omega)
    refine RE.retB rfl (ps := [rsO _ n most _]) ⟨by rw [he]; rfl, rfl⟩ ?_
    rw [kRem, he, if_neg (by decide)]
    exact hS
  · skip
    have h : ¬ (id < 0 ∨ id ≥ n) := by simpa using h
    have hr : ¬ (id < 0 ∨ id ≥ n ∨ true = false) := by simpa using h
    refine RC.seq ?_
    refine RC.region rfl ?_
    refine RL.q (Qt.mv rfl) ?_
    refine RL.q (Qt.mv rfl) ?_
    -- stops: op call
    refine RL.e (Ef.call hS (rsAt _ n most l id) rfl rfl Try.call132 [0] [1] (by decide) rfl rfl) ?_
    rintro v22 w ⟨ps, ⟨rfl, rfl⟩, hS⟩
    refine RL.q (Qt.lss rfl rfl) ?_
    refine RL.q (Qt.as rfl) ?_
    refine RL.nil ?_
    refine RE.sqN ?_
    -- stops: cond
    refine RC.cond rfl (fun h2 => ?_) (fun h2 => ?_)
    · refine RC.seq ?_
      refine RC.region rfl ?_
      refine RL.q (Qt.as rfl) ?_
      refine RL.nil ?_
      refine RE.sqN ?_
      refine RC.ret ?_
      refine RE.bkR ?_
      refine RE.sqR ?_
      -- stops: end ret
      have h2 : id ∉ kIds l := ixOf_neg.1 (of_decide_eq_true h2)
      have he := kErr_none hr h2
      refine RE.retB rfl (ps := [rsO _ n most _]) ⟨by rw [he]; rfl, rfl⟩ ?_
      rw [kRem, he, if_neg (by decide)]
      exact hS
    · skip
      have h2 : id ∈ kIds l := ixOf_mem.1 (Int.not_lt.1 (of_decide_eq_false h2))
      have he := kErr_ok1 hr h2
      have hix := kix_in h2
      have hel : (l.eraseIdx (ixOf (l.map KItem.id) id).toNat) = kout l id := kout_erase hnd h2
      refine RC.skip ?_
      refine RE.bkN ?_
      refine RE.sqN ?_
      refine RC.seq ?_
      refine RC.region rfl ?_
      refine RL.q (Qt.mv rfl) ?_
      refine RL.q (Qt.mv rfl) ?_
      refine RL.q (Qt.mv rfl) ?_
      -- stops: op call
      refine RL.e (Ef.call hS (rsAt _ n most l id) rfl rfl Try.call132 [0] [1] (by decide) rfl rfl) ?_
      rintro v27 w ⟨ps, ⟨rfl, rfl⟩, hS⟩
      -- stops: op call
      refine RL.e (Ef.call hS (rsOut _ n most l _ hix.1 hix.2) rfl rfl Try.call141 [0] [1] (by decide) rfl rfl) ?_
      rintro v28 w ⟨ps, ⟨rfl, rfl⟩, hS⟩
      rw [hel] at hS
      refine RL.nil ?_
      refine RE.sqN ?_
      refine RC.seq ?_
      refine RC.region rfl ?_
      refine RL.q (Qt.as rfl) ?_
      refine RL.nil ?_
      refine RE.sqN ?_
      refine RC.ret ?_
      -- stops: end ret
      refine RE.retB rfl (ps := [rsO _ n most _]) ⟨by rw [he]; rfl, rfl⟩ ?_
      rw [kRem, if_pos he]
      exact hS

set_option maxHeartbeats 2000000 in
theorem rsTop (p : Value) (n : Nat) (most : Int) (l : List KItem) : Ct Try.prog 95 #[p] [rsO p n most l] (fun v ps => v = .tuple #[.int .i64 (kTopId l), .agg (kTopK l).cells.toArray, .bool (kTopOk l)] ∧ ps = [rsO p n most l]) := by
  refine Ct.enter Try.func95 rfl (Nat.le_of_ble_eq_true rfl) ?_
  intro oo w R hS
  change RC _ _ _ _ _ _ [(0, _)] _
  obtain ⟨b, sp, cap, rfl, hl, hS⟩ := rsO_open hS
  refine RC.seq ?_
  refine RC.region rfl ?_
  refine RL.q (Qt.as rfl) ?_
  refine RL.e (Ef.alloc hS) ?_
  rintro _ w ⟨b3, rfl, hS⟩
  try simp (disch := omega) only [cells_agg'] at hS
  refine RL.q (Qt.as rfl) ?_
  refine RL.nil ?_
  refine RE.sqN ?_
  refine RC.seq ?_
  refine RC.seq ?_
  refine RC.region rfl ?_
  refine RL.q (Qt.mv rfl) ?_
  refine RL.q (Qt.eqlN rfl rfl) ?_
  refine RL.q (Qt.mv rfl) ?_
  refine RLG.start 7 false rfl ?_
  refine RLG.q rfl rfl rfl (fun _ => Qt.mv rfl) ?_
  refine RLG.q rfl rfl rfl (fun _ => Qt.nil rfl) ?_
  refine RLG.q rfl rfl rfl (fun _ => Qt.fld rfl) ?_
  refine RLG.q rfl rfl rfl (fun hg => by (try simp only [Option.isNone_some] at hg); exact Qt.ld rfl (by first | exact hS.at 0 rfl | exact hS.at 1 rfl | exact hS.at 2 rfl | exact hS.at 3 rfl) (by first  | rfl)) ?_
  refine RLG.q rfl rfl rfl (fun _ => Qt.lenS rfl) ?_
  refine RLG.q rfl rfl rfl (fun hg => by (try simp only [Option.isNone_some] at hg); exact Qt.eql rfl rfl) ?_
  refine RLG.or rfl rfl ?_
  refine RL.nil ?_
  refine RE.sqN ?_
  -- stops: cond
  refine RC.cond rfl (fun h => ?_) (fun h => ?_)
  · refine RC.seq ?_
    refine RC.region rfl ?_
    refine RL.q (Qt.bldV [.const (Go.Value.bool false), .const (Go.Value.int Go.IntKind.u64 0), .const (Go.Value.int Go.IntKind.u8 0)] rfl rfl (by kernel_rfl)) ?_
    refine RL.q (Qt.as rfl) ?_
    first | refine RL.e0 (Ef.st hS 0 rfl rfl rfl (by rfl) (by rfl) (by first | exact Nat.le_of_ble_eq_true rfl | omega | (simp only [Array.size_map]; omega))) ?_ | refine RL.e0 (Ef.st hS 1 rfl rfl rfl (by rfl) (by rfl) (by first | exact Nat.le_of_ble_eq_true rfl | omega | (simp only [Array.size_map]; omega))) ?_ | refine RL.e0 (Ef.st hS 2 rfl rfl rfl (by rfl) (by rfl) (by first | exact Nat.le_of_ble_eq_true rfl | omega | (simp only [Array.size_map]; omega))) ?_ | refine RL.e0 (Ef.st hS 3 rfl rfl rfl (by rfl) (by rfl) (by first | exact Nat.le_of_ble_eq_true rfl | omega | (simp only [Array.size_map]; omega))) ?_
    intro _ w hS
    simp (disch := omega) only [List.set_cons_zero, List.set_cons_succ, cells_agg', Nat.zero_add, wr, List.setIfInBounds_toArray] at hS
    refine RL.q (Qt.as rfl) ?_
    refine RL.nil ?_
    refine RE.sqN ?_
    refine RC.ret ?_
    refine RE.sqR ?_
    -- stops: end ret
    have h : l.length = 0 := by
      have : (l.length : Int) = 0 := by simpa using h
      omega
    obtain rfl := List.length_eq_zero_iff.1 h
    exact RE.retW (vs := [.int .i64 0, .agg KKey.none.cells.toArray, .bool false]) (by repeat (first | exact ResW.nil | refine ResW.tmp rfl ?_ | refine ResW.cell (by infer_instance) rfl rfl (by first | exact hS.get 0 rfl | exact hS.get 1 rfl | exact hS.get 2 rfl | exact hS.get 3 rfl | exact hS.get 4 rfl | exact hS.get 5 rfl | exact hS.get 6 rfl | exact hS.get 7 rfl | exact hS.get 8 rfl) rfl (Nat.le_of_ble_eq_true rfl) ?_)) ⟨rfl, rfl⟩ (rsO_shut hl (hS.pick [1, 2, 3] (by decide) rfl))
  · skip
    have h : 0 < l.length := by
      have : ¬ (l.length : Int) = 0 := by simpa using h
      omega
    have hS0 := hS
    obtain ⟨bs, cap', c, hv, hc1, hc2, hc3, hc4, hS⟩ := hS.ownPos 2 rfl (by omega)
    cases hv
    have hrow := row_part (f := KItem.cells) (sz := 4) (vs := l[0].k.cells.toArray) (a := 1) (n := 3) (fun _ => rfl) hc4 rfl (by rw [hc1]; exact Nat.mul_le_mul_right _ hc2) h rfl (by decide) (k := 0 + (0 : Int).toNat * 4 + 1) (by omega) rfl
    refine RC.skip ?_
    refine RE.sqN ?_
    refine RC.seq ?_
    refine RC.drawn 17 [0, 1, 2, 3, 4, 5, 6, 7, 8, 9, 10, 11, 12, 13, 14, 15, 16] (fun w' => w'.heap[b]? = some (.cells #[.int .i64 n, .int .i64 most, .slice (some ⟨bs, 0, none⟩) l.length cap] 148 (0, 0)) ∧ w'.heap[bs]? = some (.cells c 163 (0, 0))) (by kernel_rfl) (by kernel_rfl) (⟨by first | exact hS.drew.get 0 rfl | exact hS.drew.get 1 rfl | exact hS.drew.get 2 rfl | exact hS.drew.get 3 rfl | exact hS.drew.get 4 rfl | exact hS.drew.get 5 rfl, by first | exact hS.drew.get 0 rfl | exact hS.drew.get 1 rfl | exact hS.drew.get 2 rfl | exact hS.drew.get 3 rfl | exact hS.drew.get 4 rfl | exact hS.drew.get 5 rfl⟩) (fun hh => ?_)
    replace hS := hS.drew
    refine RH.q hh (Calm.sq Calm.body) rfl (by kernel_rfl) (Qt.mv rfl) ?_
    refine RH.q hh (Calm.sq Calm.body) rfl (by kernel_rfl) (Qt.nil rfl) ?_
    refine RH.q hh (Calm.sq Calm.body) rfl (by kernel_rfl) (Qt.fld rfl) ?_
    refine RH.q hh (Calm.sq Calm.body) rfl (by kernel_rfl) (Qt.ld rfl (by first | exact fun _ h => h.1 | exact fun _ h => h.2) (by first | exact row_cell (f := KItem.cells) (fun _ => rfl) hc4 rfl h (j := 0) (by decide) rfl (by omega) | rfl)) ?_
    refine RH.q hh (Calm.sq Calm.body) rfl (by kernel_rfl) (Qt.ixS rfl rfl (by first | assumption | omega | (dsimp only; omega)) (by first | assumption | omega | (dsimp only; omega))) ?_
    refine RH.q hh (Calm.sq Calm.body) rfl (by kernel_rfl) (Qt.fld rfl) ?_
    refine RH.q hh (Calm.sq Calm.body) rfl (by kernel_rfl) (Qt.ld rfl (by first | exact fun _ h => h.1 | exact fun _ h => h.2) (by first | exact row_cell (f := KItem.cells) (fun _ => rfl) hc4 rfl h (j := 0) (by decide) rfl (by omega) | rfl)) ?_
    refine RH.q hh (Calm.sq Calm.body) rfl (by kernel_rfl) (Qt.mv rfl) ?_
    refine RH.q hh (Calm.sq Calm.body) rfl (by kernel_rfl) (Qt.nil rfl) ?_
    refine RH.q hh (Calm.sq Calm.body) rfl (by kernel_rfl) (Qt.fld rfl) ?_
    refine RH.q hh (Calm.sq Calm.body) rfl (by kernel_rfl) (Qt.ld rfl (by first | exact fun _ h => h.1 | exact fun _ h => h.2) (by first | exact row_cell (f := KItem.cells) (fun _ => rfl) hc4 rfl h (j := 0) (by decide) rfl (by omega) | rfl)) ?_
    refine RH.q hh (Calm.sq Calm.body) rfl (by kernel_rfl) (Qt.ixS rfl rfl (by first | assumption | omega | (dsimp only; omega)) (by first | assumption | omega | (dsimp only; omega))) ?_
    refine RH.q hh (Calm.sq Calm.body) rfl (by kernel_rfl) (Qt.fld rfl) ?_
    refine RH.q hh (Calm.sq Calm.body) rfl (by kernel_rfl) (Qt.ldA rfl (by first | exact fun _ h => h.1 | exact fun _ h => h.2) (by first | exact hrow | rfl) (by first | exact Nat.le_of_ble_eq_true rfl | omega | (simp only [Array.size_map]; omega))) ?_
    refine RH.q hh (Calm.sq Calm.body) rfl (by kernel_rfl) (Qt.as rfl) ?_
    first | refine RH.e0 hh rfl (by kernel_rfl) (Ef.st hS 0 rfl rfl rfl (by rfl) (by rfl) (by first | exact Nat.le_of_ble_eq_true rfl | omega | (simp only [Array.size_map]; omega))) ?_ | refine RH.e0 hh rfl (by kernel_rfl) (Ef.st hS 1 rfl rfl rfl (by rfl) (by rfl) (by first | exact Nat.le_of_ble_eq_true rfl | omega | (simp only [Array.size_map]; omega))) ?_ | refine RH.e0 hh rfl (by kernel_rfl) (Ef.st hS 2 rfl rfl rfl (by rfl) (by rfl) (by first | exact Nat.le_of_ble_eq_true rfl | omega | (simp only [Array.size_map]; omega))) ?_ | refine RH.e0 hh rfl (by kernel_rfl) (Ef.st hS 3 rfl rfl rfl (by rfl) (by rfl) (by first | exact Nat.le_of_ble_eq_true rfl | omega | (simp only [Array.size_map]; omega))) ?_
    intro _ w hS
    simp (disch := omega) only [List.set_cons_zero, List.set_cons_succ, cells_agg'] at hS
    refine ⟨⟨by first | exact hS.get 0 rfl | exact hS.get 1 rfl | exact hS.get 2 rfl | exact hS.get 3 rfl | exact hS.get 4 rfl | exact hS.get 5 rfl, by first | exact hS.get 0 rfl | exact hS.get 1 rfl | exact hS.get 2 rfl | exact hS.get 3 rfl | exact hS.get 4 rfl | exact hS.get 5 rfl⟩, ?_⟩
    refine RH.q hh (Calm.sq Calm.body) rfl (by kernel_rfl) (Qt.as rfl) ?_
    refine RH.done hh (by kernel_rfl) ?_
    refine RL.nil ?_
    refine RE.sqN ?_
    refine RC.ret ?_
    -- stops: end ret
    have hS := hS.ownMk (cap := cap) (n := l.length) (sz := 4) (cs := l.flatMap KItem.cells) 2 rfl hc1 hc2 hc3 hc4
    cases l with
    | nil => simp at h
    | cons x l => exact RE.retW (vs := [.int .i64 x.id, .agg x.k.cells.toArray, .bool true]) (by repeat (first | exact ResW.nil | refine ResW.tmp rfl ?_ | refine ResW.cell (by infer_instance) rfl rfl (by first | exact hS.get 0 rfl | exact hS.get 1 rfl | exact hS.get 2 rfl | exact hS.get 3 rfl | exact hS.get 4 rfl | exact hS.get 5 rfl | exact hS.get 6 rfl | exact hS.get 7 rfl | exact hS.get 8 rfl) rfl (Nat.le_of_ble_eq_true rfl) ?_)) ⟨rfl, rfl⟩ (rsO_shut hl (hS.pick [1, 2, 3] (by decide) rfl))
end Go.Proofs

/- The reference's set of layer 10: Put, Change, Remove, Take, Top, Key, New. -/
import Derived.Test.YtlicnplclfclcaaRs2
namespace Go.Proofs
open Go Go.Gx
variable {oo : World}

theorem krange_or {id : Int} {n : Nat} (h : id < 0 ∨ id ≥ n) : (decide (id < 0) || decide (id ≥ (n : Int))) = true := by simpa using h
theorem krange_nor {id : Int} {n : Nat} (h : ¬ (id < 0 ∨ id ≥ n)) : (decide (id < 0) || decide (id ≥ (n : Int))) = false := by simpa using h

set_option maxHeartbeats 2000000 in
theorem rsPut (p : Value) (n : Nat) (most : Int) (l : List KItem) (id : Int) (k : KKey) (hlen : l.length < 1000000) : Ct Try.prog 110 #[p, .int .i64 id, .agg k.cells.toArray] [rsO p n most l] (fun v ps => v = .int .i64 (kPutErr l n most id k) ∧ ps = [rsO p n most (kPut l n most id k)]) := by
  refine Ct.enter Try.func110 rfl (Nat.le_of_ble_eq_true rfl) ?_
  intro oo w R hS
  change RC _ _ _ _ _ _ [(0, _), (1, _), (2, _)] _
  obtain ⟨b, sp, cap, rfl, hl, hS⟩ := rsO_open hS
  have hkx : k.cells.toArray.extract 0 (0 + 3) = k.cells.toArray := rfl
  refine RC.seq ?_
  refine RC.region rfl ?_
  refine RL.e (Ef.box hS rfl) ?_
  rintro _ w ⟨b5, rfl, hS⟩
  try simp (disch := omega) only [cells_agg'] at hS
  refine RL.q (Qt.as rfl) ?_
  refine RL.nil ?_
  refine RE.sqN ?_
  refine RC.seq ?_
  refine RC.block ?_
  refine RC.seq ?_
  refine RC.region rfl ?_
  refine RL.q (Qt.mv rfl) ?_
  refine RL.q (Qt.eqlN rfl rfl) ?_
  refine RL.q (Qt.as rfl) ?_
  refine RL.nil ?_
  refine RE.sqN ?_
  -- stops: cond
  by_cases hr : id < 0 ∨ id ≥ n
  · have hg := krange_or hr
    refine RC.condF rfl (rfl) ?_
    refine RC.seq ?_
    refine RC.region rfl ?_
    refine RL.q (Qt.mv rfl) ?_
    refine RL.q (Qt.lss rfl rfl) ?_
    refine RL.q (Qt.mv rfl) ?_
    refine RLG.start 13 false rfl ?_
    refine RLG.q rfl rfl rfl (fun _ => Qt.mv rfl) ?_
    refine RLG.q rfl rfl rfl (fun _ => Qt.mv rfl) ?_
    refine RLG.q rfl rfl rfl (fun _ => Qt.nil rfl) ?_
    refine RLG.q rfl rfl rfl (fun _ => Qt.fld rfl) ?_
    refine RLG.q rfl rfl rfl (fun hg => by (try simp only [decide_eq_false_iff_not] at hg); exact Qt.ld rfl (by first | exact hS.at 0 rfl | exact hS.at 1 rfl | exact hS.at 2 rfl | exact hS.at 3 rfl) (by first  | rfl)) ?_
    refine RLG.q rfl rfl rfl (fun hg => by (try simp only [decide_eq_false_iff_not] at hg); exact Qt.geq rfl rfl) ?_
    refine RLG.or rfl rfl ?_
    refine RL.q (Qt.mv rfl) ?_
    refine RL.s (Skips.guard rfl rfl rfl (hg)) ?_
    refine RL.s (Skips.guard rfl rfl rfl (hg)) ?_
    refine RL.s (Skips.guard rfl rfl rfl (hg)) ?_
    refine RL.q ((by first | exact Qt.pickT rfl (by assumption) rfl | exact Qt.pickF rfl (by assumption) rfl | exact Qt.pickT rfl rfl rfl | exact Qt.pickF rfl rfl rfl)) ?_
    refine RL.q (Qt.as rfl) ?_
    refine RL.nil ?_
    refine RE.sqN ?_
    -- stops: cond
    refine RC.condT rfl (rfl) ?_
    refine RC.seq ?_
    refine RC.region rfl ?_
    refine RL.q (Qt.as rfl) ?_
    refine RL.nil ?_
    refine RE.sqN ?_
    refine RC.ret ?_
    refine RE.bkR ?_
    refine RE.sqR ?_
    -- stops: end ret
    have he : kErr l n id (kRight k) false = 2 := kErr_range (by omega)
    have hpe : kPutErr l n most id k = 2 := by rw [kPutErr, he, if_neg (by decide)]
    refine RE.retB rfl (ps := [rsO _ n most _]) ⟨by rw [hpe]; rfl, rfl⟩ ?_
    rw [kPut, hpe, if_neg (by decide)]
    exact rsO_shut hl (hS.pick [1, 2, 3] (by decide) rfl)
  · have hg := krange_nor hr
    refine RC.condF rfl (rfl) ?_
    refine RC.seq ?_
    refine RC.region rfl ?_
    refine RL.q (Qt.mv rfl) ?_
    refine RL.q (Qt.lss rfl rfl) ?_
    refine RL.q (Qt.mv rfl) ?_
    refine RLG.start 13 false rfl ?_
    refine RLG.q rfl rfl rfl (fun _ => Qt.mv rfl) ?_
    refine RLG.q rfl rfl rfl (fun _ => Qt.mv rfl) ?_
    refine RLG.q rfl rfl rfl (fun _ => Qt.nil rfl) ?_
    refine RLG.q rfl rfl rfl (fun _ => Qt.fld rfl) ?_
    refine RLG.q rfl rfl rfl (fun hg => by (try simp only [decide_eq_false_iff_not] at hg); exact Qt.ld rfl (by first | exact hS.at 0 rfl | exact hS.at 1 rfl | exact hS.at 2 rfl | exact hS.at 3 rfl) (by first  | rfl)) ?_
    refine RLG.q rfl rfl rfl (fun hg => by (try simp only [decide_eq_false_iff_not] at hg); exact Qt.geq rfl rfl) ?_
    refine RLG.or rfl rfl ?_
    refine RL.q (Qt.mv rfl) ?_
    refine RL.q (Qt.ldA rfl (by first | exact hS.at 0 rfl | exact hS.at 1 rfl | exact hS.at 2 rfl | exact hS.at 3 rfl) (by first | exact hkx | rfl) (by first | exact Nat.le_of_ble_eq_true rfl | omega | (simp only [Array.size_map]; omega))) ?_ (Runs.guard rfl rfl rfl (hg))
    -- stops: op call
    refine RL.e (Ef.call hS (rkRight k) rfl rfl Try.call139 [] [0, 1, 2, 3] (by decide) rfl rfl) ?_ (Runs.guard rfl rfl rfl (hg))
    rintro v23 w ⟨ps, ⟨rfl, rfl⟩, hS⟩
    try rw [List.nil_append] at hS
    refine RL.q (Qt.not rfl) ?_ (Runs.guard rfl rfl rfl (hg))
    refine RL.q ((by first | exact Qt.pickT rfl (by assumption) rfl | exact Qt.pickF rfl (by assumption) rfl | exact Qt.pickT rfl rfl rfl | exact Qt.pickF rfl rfl rfl)) ?_
    refine RL.q (Qt.as rfl) ?_
    refine RL.nil ?_
    refine RE.sqN ?_
    -- stops: cond
    refine RC.cond rfl (fun h => ?_) (fun h => ?_)
    · refine RC.seq ?_
      refine RC.region rfl ?_
      refine RL.q (Qt.as rfl) ?_
      refine RL.nil ?_
      refine RE.sqN ?_
      refine RC.ret ?_
      refine RE.bkR ?_
      refine RE.sqR ?_
      -- stops: end ret
      have h : kRight k = false := by simpa using h
      have he : kErr l n id (kRight k) false = 2 := kErr_range (.inr (.inr h))
      have hpe : kPutErr l n most id k = 2 := by rw [kPutErr, he, if_neg (by decide)]
      refine RE.retB rfl (ps := [rsO _ n most _]) ⟨by rw [hpe]; rfl, rfl⟩ ?_
      rw [kPut, hpe, if_neg (by decide)]
      exact rsO_shut hl (hS.pick [1, 2, 3] (by decide) rfl)
    · skip
      have h : kRight k = true := by simpa using h
      have hr : ¬ (id < 0 ∨ id ≥ n ∨ kRight k = false) := by rw [h]; simpa using hr
      have hS := rsO_shut hl (hS.pick [1, 2, 0, 3] (by decide) rfl)
      refine RC.seq ?_
      refine RC.region rfl ?_
      refine RL.q (Qt.mv rfl) ?_
      refine RL.q (Qt.mv rfl) ?_
      -- stops: op call
      refine RL.e (Ef.call hS (rsAt _ n most l id) rfl rfl Try.call132 [0] [1, 2] (by decide) rfl rfl) ?_
      rintro v29 w ⟨ps, ⟨rfl, rfl⟩, hS⟩
      refine RL.q (Qt.geq rfl rfl) ?_
      refine RL.q (Qt.as rfl) ?_
      refine RL.nil ?_
      refine RE.sqN ?_
      -- stops: cond
      refine RC.cond rfl (fun h2 => ?_) (fun h2 => ?_)
      · refine RC.seq ?_
        refine RC.region rfl ?_
        refine RL.q (Qt.as rfl) ?_
        refine RL.nil ?_
        refine RE.sqN ?_
        refine RC.ret ?_
        refine RE.bkR ?_
        refine RE.sqR ?_
        -- stops: end ret
        have h2 : id ∈ kIds l := ixOf_mem.1 (of_decide_eq_true h2)
        have hpe : kPutErr l n most id k = 5 := by rw [kPutErr, kErr_known hr h2, if_neg (by decide)]
        refine RE.retB rfl (ps := [rsO _ n most _]) ⟨by rw [hpe]; rfl, rfl⟩ ?_
        rw [kPut, hpe, if_neg (by decide)]
        exact hS.pick [0, 2] (by decide) rfl
      · skip
        have h2 : id ∉ kIds l := fun e => of_decide_eq_false h2 (ixOf_mem.2 e)
        have he := kErr_ok0 hr h2
        obtain ⟨b2, sp, cap, hb, hl, hS⟩ := rsO_open hS
        cases hb
        refine RC.seq ?_
        refine RC.drawn 11 [0, 1, 2, 3, 4, 5, 6, 7, 8, 9, 10] (Same _) (by kernel_rfl) (by kernel_rfl) Same.drew (fun hh => ?_)
        replace hS := hS.drew
        refine RH.q hh (Calm.sq (Calm.bk (Calm.sq Calm.body))) rfl (by kernel_rfl) (Qt.mv rfl) ?_
        refine RH.q hh (Calm.sq (Calm.bk (Calm.sq Calm.body))) rfl (by kernel_rfl) (Qt.nil rfl) ?_
        refine RH.q hh (Calm.sq (Calm.bk (Calm.sq Calm.body))) rfl (by kernel_rfl) (Qt.fld rfl) ?_
        refine RH.q hh (Calm.sq (Calm.bk (Calm.sq Calm.body))) rfl (by kernel_rfl) (Qt.ld rfl (by first | exact hS.at 0 rfl | exact hS.at 1 rfl | exact hS.at 2 rfl | exact hS.at 3 rfl) (by first  | rfl)) ?_
        refine RH.q hh (Calm.sq (Calm.bk (Calm.sq Calm.body))) rfl (by kernel_rfl) (Qt.lenS rfl) ?_
        refine RH.q hh (Calm.sq (Calm.bk (Calm.sq Calm.body))) rfl (by kernel_rfl) (Qt.mv rfl) ?_
        refine RH.q hh (Calm.sq (Calm.bk (Calm.sq Calm.body))) rfl (by kernel_rfl) (Qt.nil rfl) ?_
        refine RH.q hh (Calm.sq (Calm.bk (Calm.sq Calm.body))) rfl (by kernel_rfl) (Qt.fld rfl) ?_
        refine RH.q hh (Calm.sq (Calm.bk (Calm.sq Calm.body))) rfl (by kernel_rfl) (Qt.ld rfl (by first | exact hS.at 0 rfl | exact hS.at 1 rfl | exact hS.at 2 rfl | exact hS.at 3 rfl) (by first  | rfl)) ?_
        refine RH.q hh (Calm.sq (Calm.bk (Calm.sq Calm.body))) rfl (by kernel_rfl) (Qt.geq rfl rfl) ?_
        refine RH.q hh (Calm.sq (Calm.bk (Calm.sq Calm.body))) rfl (by kernel_rfl) (Qt.as rfl) ?_
        refine RH.done hh (by kernel_rfl) ?_
        refine RL.nil ?_
        refine RE.sqN ?_
        -- stops: cond
        refine RC.cond rfl (fun h3 => ?_) (fun h3 => ?_)
        · refine RC.seq ?_
          refine RC.region rfl ?_
          refine RL.q (Qt.as rfl) ?_
          refine RL.nil ?_
          refine RE.sqN ?_
          refine RC.ret ?_
          refine RE.bkR ?_
          refine RE.sqR ?_
          -- stops: end ret
          have h3 : (l.length : Int) ≥ most := of_decide_eq_true h3
          have hpe : kPutErr l n most id k = 4 := by rw [kPutErr, he, if_pos rfl, if_pos h3]
          refine RE.retB rfl (ps := [rsO _ n most _]) ⟨by rw [hpe]; rfl, rfl⟩ ?_
          rw [kPut, hpe, if_neg (by decide)]
          exact rsO_shut hl (hS.pick [0, 1, 3] (by decide) rfl)
        · skip
          have h3 : ¬ (l.length : Int) ≥ most := of_decide_eq_false h3
          have hpe : kPutErr l n most id k = 0 := by rw [kPutErr, he, if_pos rfl, if_neg h3]
          have hS := rsO_shut hl hS
          refine RC.skip ?_
          refine RE.bkN ?_
          refine RE.sqN ?_
          refine RC.seq ?_
          refine RC.region rfl ?_
          refine RL.q (Qt.mv rfl) ?_
          refine RL.q (Qt.mv rfl) ?_
          refine RL.q (Qt.ldA rfl (by first | exact hS.at 0 rfl | exact hS.at 1 rfl | exact hS.at 2 rfl) (by first | exact hkx | rfl) (by first | exact Nat.le_of_ble_eq_true rfl | omega | (simp only [Array.size_map]; omega))) ?_
          refine RL.q (Qt.bldV [.tmp 43, .tmp 44] rfl rfl (by kernel_rfl)) ?_
          -- stops: op call
          refine RL.e (Ef.call hS (rsPut0 _ n most l ⟨id, k⟩ hlen) rfl rfl Try.call140 [0] [1, 2] (by decide) rfl rfl) ?_
          rintro v46 w ⟨ps, ⟨rfl, rfl⟩, hS⟩
          refine RL.nil ?_
          refine RE.sqN ?_
          refine RC.seq ?_
          refine RC.region rfl ?_
          refine RL.q (Qt.as rfl) ?_
          refine RL.nil ?_
          refine RE.sqN ?_
          refine RC.ret ?_
          -- stops: end ret
          refine RE.retB rfl (ps := [rsO _ n most _]) ⟨by rw [hpe]; rfl, rfl⟩ ?_
          rw [kPut, if_pos hpe]
          exact hS.pick [0, 2] (by decide) rfl
end Go.Proofs

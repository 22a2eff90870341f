/- The law BitqForks answers true: what becomes of a Fork changes nothing. -/
import Derived.Test.YtfloihcepfpefaaBqG
namespace Go.Proofs
open Go Go.Gx
variable {oo : World}

set_option maxHeartbeats 2000000 in
theorem bqLawForks (v u : Value) (ds es : List Deed) (F0 : Frag) (hR : DeedsAt v ds F0) (hR2 : DeedsAt u es F0) (hd : ∀ x ∈ ds, x.ok) (he : ∀ x ∈ es, x.ok) : Ct Try.prog 9 #[v, u] [pin F0] (fun v' ps => v' = .bool true ∧ ps = [pin F0]) := by
  obtain ⟨pa, cap, rfl, hR2⟩ := hR2
  refine Ct.enter Try.func9 rfl (Nat.le_of_ble_eq_true rfl) ?_
  intro oo w R hS
  change RC _ _ _ _ _ _ [(0, _), (1, _)] _
  refine RC.seq ?_
  refine RC.region rfl ?_
  refine RL.q (Qt.as rfl) ?_
  refine RL.nil ?_
  refine RE.sqN ?_
  refine RC.seq ?_
  refine RC.region rfl ?_
  refine RL.q (Qt.mv rfl) ?_
  -- stops: op call
  refine RL.e (Ef.call hS (bqPlay 9 (by decide) v ds F0 hR hd) rfl rfl Try.call11 [0] [1] (by decide) rfl rfl) ?_
  rintro v14 w ⟨ps, ⟨p, r, l, rfl, rfl⟩, hS⟩
  refine RL.q (Qt.mv rfl) ?_
  refine RL.q (Qt.ext rfl rfl) ?_
  refine RL.q (Qt.ext rfl rfl) ?_
  refine RL.q (Qt.ext rfl rfl) ?_
  refine RL.q (Qt.as rfl) ?_
  refine RL.q (Qt.as rfl) ?_
  refine RL.q (Qt.as rfl) ?_
  refine RL.nil ?_
  refine RE.sqN ?_
  refine RC.seq ?_
  refine RC.seq ?_
  refine RC.region rfl ?_
  -- stops: op call
  refine RL.e (Ef.call hS (bqLive) rfl rfl Try.call12 [] [0, 1, 2, 3] (by decide) rfl rfl) ?_
  rintro v18 w ⟨ps, ⟨rfl, p', l', rfl⟩, hS⟩
  refine RL.q (Qt.not rfl) ?_
  refine RL.q (Qt.mv rfl) ?_
  refine RLG.start 20 false rfl ?_
  refine RLG.q rfl rfl rfl (fun _ => Qt.mv rfl) ?_
  refine RLG.q rfl rfl rfl (fun _ => Qt.not rfl) ?_
  refine RLG.or rfl rfl ?_
  refine RL.nil ?_
  refine RE.sqN ?_
  -- stops: cond
  refine RC.condF rfl (rfl) ?_
  refine RC.skip ?_
  refine RE.sqN ?_
  refine RC.seq ?_
  refine RC.region rfl ?_
  refine RL.q (Qt.mv rfl) ?_
  -- stops: op call
  refine RL.e (Ef.call hS (bqFork p _ l) rfl rfl Try.call24 [1] [0, 2, 3, 4] (by decide) rfl rfl) ?_
  rintro v25 w ⟨ps, rfl, hS⟩
  refine RL.q (Qt.mv rfl) ?_
  -- stops: op call
  refine RL.e (Ef.call hS (rqFork r _ l) rfl rfl Try.call25 [3] [0, 1, 2, 4, 5] (by decide) rfl rfl) ?_
  rintro v27 w ⟨ps, rfl, hS⟩
  refine RL.q (Qt.as rfl) ?_
  refine RL.q (Qt.as rfl) ?_
  refine RL.nil ?_
  refine RE.sqN ?_
  refine RC.seq ?_
  refine RC.seq ?_
  refine RC.region rfl ?_
  refine RL.q (Qt.as rfl) ?_
  refine RL.nil ?_
  refine RE.sqN ?_
  refine RC.block ?_
  -- stops: loop
  refine RC.loop (γ := Nat × List RItem) (fun h E w' => E = [(10, .int .i64 h.1), (1, .slice pa es.length cap), (5, p), (6, r), (8, v25), (9, v27)] ∧ Sat oo w' [qO p (9 % 12 + 1 : Int).toNat l, refQ r (9 % 12 + 1 : Int).toNat l, qO v25 (9 % 12 + 1 : Int).toNat h.2, refQ v27 (9 % 12 + 1 : Int).toNat h.2, pin F0, R] ∧ h.1 ≤ es.length ∧ h.1 ≤ 30) (fun h => es.length - h.1) (0, l) _ (by (repeat (first | exact Sub.nil | refine Sub.cons rfl ?_))) ⟨rfl, hS.pick [3, 0, 2, 1, 5, 6] (by decide) rfl, by simp, by simp⟩ ?_
  clear hS
  rintro ⟨k, m⟩ E w ⟨rfl, hS, hk, hk2⟩
  dsimp only at hk hk2
  refine RC.seq ?_
  refine RC.seq ?_
  refine RC.region rfl ?_
  refine RL.q (Qt.mv rfl) ?_
  refine RL.q (Qt.mv rfl) ?_
  refine RL.q (Qt.lenS rfl) ?_
  refine RL.q (Qt.lss rfl rfl) ?_
  refine RL.q (Qt.mv rfl) ?_
  refine RLG.start 32 true rfl ?_
  refine RLG.q rfl rfl rfl (fun _ => Qt.mv rfl) ?_
  refine RLG.q rfl rfl rfl (fun hg => by (try simp only [decide_eq_true_eq] at hg); exact Qt.lss rfl rfl) ?_
  refine RLG.and rfl rfl ?_
  refine RL.nil ?_
  refine RE.sqN ?_
  -- stops: cond
  refine RC.cond rfl (fun h => ?_) (fun h => ?_)
  · skip
    have h : k < es.length ∧ k < 30 := by
      simp only [Bool.and_eq_true, decide_eq_true_eq] at h
      omega
    obtain ⟨b, off, c, T, fz, rfl, hmem, hle, hrow⟩ := hR2 (by omega)
    have hrow := hrow k h.1
    refine RC.skip ?_
    refine RE.sqN ?_
    refine RC.seq ?_
    refine RC.block ?_
    refine RC.seq ?_
    refine RC.region rfl ?_
    refine RL.q (Qt.mv rfl) ?_
    refine RL.q (Qt.mv rfl) ?_
    refine RL.q (Qt.mv rfl) ?_
    refine RL.q (Qt.mv rfl) ?_
    refine RL.q (Qt.ixS rfl rfl (by first | assumption | omega) (by first | assumption | omega)) ?_
    refine RL.q (Qt.ldA rfl (by first | exact hS.atPin 4 rfl hmem | exact hS.atPin 3 rfl hmem | exact hS.atPin 2 rfl hmem) (by first | exact hrow | rfl) (by first | exact Nat.le_of_ble_eq_true rfl | omega | (simp only [Array.size_map]; omega))) ?_
    -- stops: op call
    refine RL.e (Ef.call hS (bqDo v25 v27 _ m es[k] (he _ (List.getElem_mem h.1))) rfl rfl Try.call26 [2, 3] [0, 1, 4, 5] (by decide) rfl rfl) ?_
    rintro v44 w ⟨ps, ⟨rfl, rfl⟩, hS⟩
    refine RL.q (Qt.not rfl) ?_
    refine RL.nil ?_
    refine RE.sqN ?_
    -- stops: cond
    refine RC.condF rfl (rfl) ?_
    refine RC.skip ?_
    refine RE.bkN ?_
    refine RE.sqN ?_
    refine RC.region rfl ?_
    refine RL.q (Qt.mv rfl) ?_
    refine RL.q ((by first | exact Qt.addI rfl rfl (by dsimp only [inK]; omega) | exact Qt.add rfl rfl)) ?_
    refine RL.q (Qt.as rfl) ?_
    refine RL.nil ?_
    -- stops: next
    apply RE.lpN ((k + 1, rDo m (9 % 12 + 1 : Int).toNat es[k]))
    case hI => exact ⟨rfl, hS.pick [2, 3, 0, 1, 4, 5] (by decide) rfl, h.1, h.2⟩
    case hs => (repeat (first | exact Sub.nil | refine Sub.cons rfl ?_))
    case hm =>
      show es.length - (k + 1) < es.length - k
      omega
  · skip
    refine RC.exit ?_
    refine RE.sqX ?_
    refine RE.lpX ?_
    refine RE.bkX ?_
    refine RE.sqN ?_
    refine RC.seq ?_
    refine RC.seq ?_
    refine RC.region rfl ?_
    refine RL.q (Qt.as rfl) ?_
    refine RL.nil ?_
    refine RE.sqN ?_
    refine RC.block ?_
    -- stops: loop
    refine RC.loop (γ := Nat) (fun k E w' => E = [(11, .int .i64 k), (1, .slice pa es.length cap), (5, p), (6, r), (8, v25), (9, v27)] ∧ Sat oo w' [qO p (9 % 12 + 1 : Int).toNat l, refQ r (9 % 12 + 1 : Int).toNat l, qO v25 (9 % 12 + 1 : Int).toNat m, refQ v27 (9 % 12 + 1 : Int).toNat m, pin F0, R] ∧ k ≤ es.length ∧ k ≤ 30) (fun k => es.length - k) 0 _ (by (repeat (first | exact Sub.nil | refine Sub.cons rfl ?_))) ⟨rfl, hS, by simp, by simp⟩ ?_
    clear hS h
    rintro k E w ⟨rfl, hS, hk, hk2⟩
    refine RC.seq ?_
    refine RC.seq ?_
    refine RC.region rfl ?_
    refine RL.q (Qt.mv rfl) ?_
    refine RL.q (Qt.mv rfl) ?_
    refine RL.q (Qt.lenS rfl) ?_
    refine RL.q (Qt.lss rfl rfl) ?_
    refine RL.q (Qt.mv rfl) ?_
    refine RLG.start 50 true rfl ?_
    refine RLG.q rfl rfl rfl (fun _ => Qt.mv rfl) ?_
    refine RLG.q rfl rfl rfl (fun hg => by (try simp only [decide_eq_true_eq] at hg); exact Qt.lss rfl rfl) ?_
    refine RLG.and rfl rfl ?_
    refine RL.nil ?_
    refine RE.sqN ?_
    -- stops: cond
    refine RC.cond rfl (fun h => ?_) (fun h => ?_)
    · skip
      have h : k < es.length ∧ k < 30 := by
        simp only [Bool.and_eq_true, decide_eq_true_eq] at h
        omega
      obtain ⟨b, off, c, T, fz, rfl, hmem, hle, hrow⟩ := hR2 (by omega)
      have hrow := hrow k h.1
      refine RC.skip ?_
      refine RE.sqN ?_
      refine RC.seq ?_
      refine RC.block ?_
      refine RC.seq ?_
      refine RC.region rfl ?_
      refine RL.q (Qt.mv rfl) ?_
      refine RL.q (Qt.mv rfl) ?_
      refine RL.q (Qt.mv rfl) ?_
      refine RL.q (Qt.mv rfl) ?_
      refine RL.q (Qt.ixS rfl rfl (by first | assumption | omega) (by first | assumption | omega)) ?_
      refine RL.q (Qt.ldA rfl (by first | exact hS.atPin 4 rfl hmem | exact hS.atPin 3 rfl hmem | exact hS.atPin 2 rfl hmem) (by first | exact hrow | rfl) (by first | exact Nat.le_of_ble_eq_true rfl | omega | (simp only [Array.size_map]; omega))) ?_
      -- stops: op call
      refine RL.e (Ef.call hS (bqSame p r _ l es[k] (he _ (List.getElem_mem h.1))) rfl rfl Try.call20 [0, 1] [2, 3, 4, 5] (by decide) rfl rfl) ?_
      rintro v62 w ⟨ps, ⟨rfl, rfl⟩, hS⟩
      refine RL.q (Qt.not rfl) ?_
      refine RL.q (Qt.mv rfl) ?_
      -- stops: guard
      refine RL.q (Qt.mv rfl) ?_ (Runs.guard rfl rfl rfl (rfl))
      refine RL.q (Qt.mv rfl) ?_ (Runs.guard rfl rfl rfl (rfl))
      refine RL.q (Qt.mv rfl) ?_ (Runs.guard rfl rfl rfl (rfl))
      refine RL.q (Qt.mv rfl) ?_ (Runs.guard rfl rfl rfl (rfl))
      refine RL.q (Qt.ixS rfl rfl (by first | assumption | omega) (by first | assumption | omega)) ?_ (Runs.guard rfl rfl rfl (rfl))
      refine RL.q (Qt.ldA rfl (by first | exact hS.atPin 4 rfl hmem | exact hS.atPin 3 rfl hmem | exact hS.atPin 2 rfl hmem) (by first | exact hrow | rfl) (by first | exact Nat.le_of_ble_eq_true rfl | omega | (simp only [Array.size_map]; omega))) ?_ (Runs.guard rfl rfl rfl (rfl))
      -- stops: op call
      refine RL.e (Ef.call hS (bqSame v25 v27 _ m es[k] (he _ (List.getElem_mem h.1))) rfl rfl Try.call20 [2, 3] [0, 1, 4, 5] (by decide) rfl rfl) ?_ (Runs.guard rfl rfl rfl (rfl))
      rintro v71 w ⟨ps, ⟨rfl, rfl⟩, hS⟩
      refine RL.q (Qt.not rfl) ?_ (Runs.guard rfl rfl rfl (rfl))
      refine RL.q ((by first | exact Qt.pickT rfl (by assumption) rfl | exact Qt.pickF rfl (by assumption) rfl | exact Qt.pickT rfl rfl rfl | exact Qt.pickF rfl rfl rfl)) ?_
      refine RL.nil ?_
      refine RE.sqN ?_
      -- stops: cond
      refine RC.condF rfl (rfl) ?_
      refine RC.skip ?_
      refine RE.bkN ?_
      refine RE.sqN ?_
      refine RC.region rfl ?_
      refine RL.q (Qt.mv rfl) ?_
      refine RL.q ((by first | exact Qt.addI rfl rfl (by dsimp only [inK]; omega) | exact Qt.add rfl rfl)) ?_
      refine RL.q (Qt.as rfl) ?_
      refine RL.nil ?_
      -- stops: next
      apply RE.lpN (k + 1)
      case hI => exact ⟨rfl, hS.pick [2, 3, 0, 1, 4, 5] (by decide) rfl, h.1, h.2⟩
      case hs => (repeat (first | exact Sub.nil | refine Sub.cons rfl ?_))
      case hm =>
        show es.length - (k + 1) < es.length - k
        omega
    · refine RC.exit ?_
      refine RE.sqX ?_
      refine RE.lpX ?_
      refine RE.bkX ?_
      refine RE.sqN ?_
      refine RC.seq ?_
      refine RC.region rfl ?_
      refine RL.q (Qt.as rfl) ?_
      refine RL.nil ?_
      refine RE.sqN ?_
      refine RC.ret ?_
      -- stops: end ret
      exact RE.retB rfl ⟨rfl, rfl⟩ (hS.pick [4, 5] (by decide) rfl)
end Go.Proofs

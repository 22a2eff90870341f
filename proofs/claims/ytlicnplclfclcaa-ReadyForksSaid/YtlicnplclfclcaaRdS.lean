/- The law ReadyForks answers true. -/
import Derived.Test.YtlicnplclfclcaaRdW
namespace Go.Proofs
open Go Go.Gx
variable {oo : World}

set_option maxHeartbeats 2000000 in
theorem rdLawForks (v u : Value) (ds es : List RDeed) (F0 : Frag) (hR : RDeedsAt v ds F0) (hR2 : RDeedsAt u es F0) (hd : ∀ x ∈ ds, x.ok) (he : ∀ x ∈ es, x.ok) : Ct Try.prog 16 #[v, u] [pin F0] (fun v' ps => v' = .bool true ∧ ps = [pin F0]) := by
  obtain ⟨pa, cap, rfl, hR2⟩ := hR2
  refine Ct.enter Try.func16 rfl (Nat.le_of_ble_eq_true rfl) ?_
  intro oo w R hS
  change RC _ _ _ _ _ _ [(0, _), (1, _)] _
  refine RC.seq ?_
  refine RC.region rfl ?_
  refine RL.q (Qt.as rfl) ?_
  refine RL.nil ?_
  refine RE.sqN ?_
  refine RC.seq ?_
  refine RC.region rfl ?_
  refine RL.q (Qt.mv rfl) ?_
  -- stops: op call
  refine RL.e (Ef.call hS (rdPlay 9 (by decide) v ds F0 hR hd) rfl rfl Try.call44 [0] [1] (by decide) rfl rfl) ?_
  rintro v13 w ⟨ps, ⟨b, r, l, rfl, hlm, rfl⟩, hS⟩
  refine RL.q (Qt.mv rfl) ?_
  refine RL.q (Qt.ext rfl rfl) ?_
  refine RL.q (Qt.ext rfl rfl) ?_
  refine RL.q (Qt.ext rfl rfl) ?_
  refine RL.q (Qt.as rfl) ?_
  refine RL.q (Qt.as rfl) ?_
  refine RL.q (Qt.as rfl) ?_
  refine RL.nil ?_
  refine RE.sqN ?_
  refine RC.seq ?_
  refine RC.seq ?_
  refine RC.region rfl ?_
  -- stops: op call
  refine RL.e (Ef.call hS (rdLive) rfl rfl Try.call45 [] [0, 1, 2, 3] (by decide) rfl rfl) ?_
  rintro v17 w ⟨ps, ⟨rfl, p', l', rfl⟩, hS⟩
  refine RL.q (Qt.not rfl) ?_
  refine RL.q (Qt.mv rfl) ?_
  refine RLG.start 19 false rfl ?_
  refine RLG.q rfl rfl rfl (fun _ => Qt.mv rfl) ?_
  refine RLG.q rfl rfl rfl (fun _ => Qt.not rfl) ?_
  refine RLG.or rfl rfl ?_
  refine RL.nil ?_
  refine RE.sqN ?_
  -- stops: cond
  refine RC.condF rfl (rfl) ?_
  refine RC.skip ?_
  refine RE.sqN ?_
  refine RC.seq ?_
  refine RC.region rfl ?_
  refine RL.q (Qt.mv rfl) ?_
  -- stops: op call
  refine RL.e (Ef.call hS (rdFork _ _ _ _ l) rfl rfl Try.call63 [1] [0, 2, 3, 4] (by decide) rfl rfl) ?_
  rintro v24 w ⟨ps, ⟨⟨bf, rfl⟩, rfl⟩, hS⟩
  refine RL.q (Qt.mv rfl) ?_
  -- stops: op call
  refine RL.e (Ef.call hS (rsFork r _ _ l) rfl rfl Try.call64 [3] [0, 1, 2, 4, 5] (by decide) rfl rfl) ?_
  rintro v26 w ⟨ps, ⟨⟨bg, rfl⟩, rfl⟩, hS⟩
  refine RL.q (Qt.as rfl) ?_
  refine RL.q (Qt.as rfl) ?_
  refine RL.nil ?_
  refine RE.sqN ?_
  refine RC.seq ?_
  refine RC.seq ?_
  refine RC.region rfl ?_
  refine RL.q (Qt.as rfl) ?_
  refine RL.nil ?_
  refine RE.sqN ?_
  refine RC.block ?_
  -- stops: loop
  refine RC.loop (γ := Nat × List KItem) (fun h E w' => E = [(10, .int .i64 h.1), (1, .slice pa es.length cap), (5, .pointer (some ⟨b, 0, none⟩)), (6, r), (8, .pointer (some ⟨bf, 0, none⟩)), (9, .pointer (some ⟨bg, 0, none⟩))] ∧ Sat oo w' [sO (.pointer (some ⟨b, 0, none⟩)) 10 (9 % 10 + 1) 80 l, rsO r 10 (9 % 10 + 1) l, sO (.pointer (some ⟨bf, 0, none⟩)) 10 (9 % 10 + 1) (80 + h.1) h.2, rsO (.pointer (some ⟨bg, 0, none⟩)) 10 (9 % 10 + 1) h.2, pin F0, R] ∧ h.1 ≤ es.length ∧ h.1 ≤ 30) (fun h => es.length - h.1) (0, l) _ (by (repeat (first | exact Sub.nil | refine Sub.cons rfl ?_))) ⟨rfl, hS.pick [3, 0, 2, 1, 5, 6] (by decide) rfl, by simp, by simp⟩ ?_
  clear hS
  rintro ⟨k, m⟩ E w ⟨rfl, hS, hk, hk2⟩
  dsimp only at hk hk2 hS
  refine RC.seq ?_
  refine RC.seq ?_
  refine RC.region rfl ?_
  refine RL.q (Qt.mv rfl) ?_
  refine RL.q (Qt.mv rfl) ?_
  refine RL.q (Qt.lenS rfl) ?_
  refine RL.q (Qt.lss rfl rfl) ?_
  refine RL.q (Qt.mv rfl) ?_
  refine RLG.start 31 true rfl ?_
  refine RLG.q rfl rfl rfl (fun _ => Qt.mv rfl) ?_
  refine RLG.q rfl rfl rfl (fun hg => by (try simp only [decide_eq_true_eq] at hg); exact Qt.lss rfl rfl) ?_
  refine RLG.and rfl rfl ?_
  refine RL.nil ?_
  refine RE.sqN ?_
  -- stops: cond
  refine RC.cond rfl (fun h => ?_) (fun h => ?_)
  · skip
    have h : k < es.length ∧ k < 30 := by
      simp only [Bool.and_eq_true, decide_eq_true_eq] at h
      omega
    obtain ⟨b0, off, c, T, fz, rfl, hmem, hle, hrow⟩ := hR2 (by omega)
    have hrow := hrow k h.1
    refine RC.skip ?_
    refine RE.sqN ?_
    refine RC.seq ?_
    refine RC.block ?_
    refine RC.seq ?_
    refine RC.region rfl ?_
    refine RL.q (Qt.mv rfl) ?_
    refine RL.q (Qt.mv rfl) ?_
    refine RL.q (Qt.mv rfl) ?_
    refine RL.q (Qt.mv rfl) ?_
    refine RL.q (Qt.ixS rfl rfl (by first | assumption | omega | (dsimp only; omega)) (by first | assumption | omega | (dsimp only; omega))) ?_
    refine RL.q (Qt.ldA rfl (by first | exact hS.atPin 4 rfl hmem | exact hS.atPin 3 rfl hmem | exact hS.atPin 2 rfl hmem) (by first | exact hrow | rfl) (by first | exact Nat.le_of_ble_eq_true rfl | omega | (simp only [Array.size_map]; omega))) ?_
    -- stops: op call
    refine RL.e (Ef.call hS (rdDo _ _ _ _ (80 + k) m es[k] (he _ (List.getElem_mem h.1)) (by omega)) rfl rfl Try.call65 [2, 3] [0, 1, 4, 5] (by decide) rfl rfl) ?_
    rintro v43 w ⟨ps, ⟨rfl, rfl⟩, hS⟩
    refine RL.q (Qt.not rfl) ?_
    refine RL.nil ?_
    refine RE.sqN ?_
    -- stops: cond
    refine RC.condF rfl (rfl) ?_
    refine RC.skip ?_
    refine RE.bkN ?_
    refine RE.sqN ?_
    refine RC.region rfl ?_
    refine RL.q (Qt.mv rfl) ?_
    refine RL.q ((by first | exact Qt.addI rfl rfl (by dsimp only [inK]; omega) | exact Qt.add rfl rfl)) ?_
    refine RL.q (Qt.as rfl) ?_
    refine RL.nil ?_
    -- stops: next
    have e : (80 + (k : Int) + 1) = 80 + ((k + 1 : Nat) : Int) := by omega
    rw [e] at hS
    apply RE.lpN ((k + 1, kDo m 10 (9 % 10 + 1) es[k]))
    case hI => exact ⟨rfl, hS.pick [2, 3, 0, 1, 4, 5] (by decide) rfl, h.1, h.2⟩
    case hs => (repeat (first | exact Sub.nil | refine Sub.cons rfl ?_))
    case hm =>
      show es.length - (k + 1) < es.length - k
      omega
  · skip
    refine RC.exit ?_
    refine RE.sqX ?_
    refine RE.lpX ?_
    refine RE.bkX ?_
    refine RE.sqN ?_
    refine RC.seq ?_
    refine RC.region rfl ?_
    refine RL.q (Qt.mv rfl) ?_
    refine RL.q (Qt.mv rfl) ?_
    -- stops: op call
    refine RL.e (Ef.call hS (rdSame _ r _ _ _ l 1) rfl rfl Try.call46 [0, 1] [2, 3, 4, 5] (by decide) rfl rfl) ?_
    rintro v47 w ⟨ps, ⟨rfl, rfl⟩, hS⟩
    refine RL.q (Qt.mv rfl) ?_
    -- stops: guard
    refine RL.q (Qt.mv rfl) ?_ (Runs.guard rfl rfl rfl (rfl))
    refine RL.q (Qt.mv rfl) ?_ (Runs.guard rfl rfl rfl (rfl))
    -- stops: op call
    refine RL.e (Ef.call hS (rdSame _ _ _ _ _ m 1) rfl rfl Try.call46 [2, 3] [0, 1, 4, 5] (by decide) rfl rfl) ?_ (Runs.guard rfl rfl rfl (rfl))
    rintro v51 w ⟨ps, ⟨rfl, rfl⟩, hS⟩
    refine RL.q ((by first | exact Qt.pickT rfl (by assumption) rfl | exact Qt.pickF rfl (by assumption) rfl | exact Qt.pickT rfl rfl rfl | exact Qt.pickF rfl rfl rfl)) ?_
    refine RL.q (Qt.as rfl) ?_
    refine RL.nil ?_
    refine RE.sqN ?_
    refine RC.ret ?_
    -- stops: end ret
    exact RE.retB rfl ⟨rfl, rfl⟩ (hS.pick [4, 5] (by decide) rfl)
end Go.Proofs

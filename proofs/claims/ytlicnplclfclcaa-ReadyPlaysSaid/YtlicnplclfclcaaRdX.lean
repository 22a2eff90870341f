/- The law ReadyPlays answers true. -/
import Derived.Test.YtlicnplclfclcaaRdW
namespace Go.Proofs
open Go Go.Gx
variable {oo : World}

set_option maxHeartbeats 1000000 in
theorem rdLawPlays (n : Int) (hn : 0 ≤ n ∧ n ≤ 255) (v : Value) (ds : List RDeed) (id : Int) (F0 : Frag) (hR : RDeedsAt v ds F0) (hd : ∀ x ∈ ds, x.ok) : Ct Try.prog 10 #[.int .u8 n, v, .int .i64 id] [pin F0] (fun v' ps => v' = .bool true ∧ ps = [pin F0]) := by
  refine Ct.enter Try.func10 rfl (Nat.le_of_ble_eq_true rfl) ?_
  intro oo w R hS
  change RC _ _ _ _ _ _ [(0, _), (1, _), (2, _)] _
  refine RC.seq ?_
  refine RC.region rfl ?_
  refine RL.q (Qt.as rfl) ?_
  refine RL.nil ?_
  refine RE.sqN ?_
  refine RC.seq ?_
  refine RC.region rfl ?_
  refine RL.q (Qt.mv rfl) ?_
  refine RL.q (Qt.mv rfl) ?_
  -- stops: op call
  refine RL.e (Ef.call hS (rdPlay n hn v ds F0 hR hd) rfl rfl Try.call44 [0] [1] (by decide) rfl rfl) ?_
  rintro v13 w ⟨ps, ⟨b, r, l, rfl, hlm, rfl⟩, hS⟩
  refine RL.q (Qt.mv rfl) ?_
  refine RL.q (Qt.ext rfl rfl) ?_
  refine RL.q (Qt.ext rfl rfl) ?_
  refine RL.q (Qt.ext rfl rfl) ?_
  refine RL.q (Qt.as rfl) ?_
  refine RL.q (Qt.as rfl) ?_
  refine RL.q (Qt.as rfl) ?_
  refine RL.nil ?_
  refine RE.sqN ?_
  refine RC.seq ?_
  refine RC.region rfl ?_
  -- stops: op call
  refine RL.e (Ef.call hS (rdLive) rfl rfl Try.call45 [] [0, 1, 2, 3] (by decide) rfl rfl) ?_
  rintro v17 w ⟨ps, ⟨rfl, p', l', rfl⟩, hS⟩
  refine RL.q (Qt.mv rfl) ?_
  refine RLG.start 18 true rfl ?_
  refine RLG.q rfl rfl rfl (fun _ => Qt.mv rfl) ?_
  refine RLG.and rfl rfl ?_
  refine RL.q (Qt.mv rfl) ?_
  -- stops: guard
  refine RL.q (Qt.mv rfl) ?_ (Runs.guard rfl rfl rfl (rfl))
  refine RL.q (Qt.mv rfl) ?_ (Runs.guard rfl rfl rfl (rfl))
  refine RL.q (Qt.mv rfl) ?_ (Runs.guard rfl rfl rfl (rfl))
  -- stops: op call
  refine RL.e (Ef.call hS (rdSame _ r _ _ _ l id) rfl rfl Try.call46 [1, 2] [0, 3, 4] (by decide) rfl rfl) ?_ (Runs.guard rfl rfl rfl (rfl))
  rintro v25 w ⟨ps, ⟨rfl, rfl⟩, hS⟩
  refine RL.q ((by first | exact Qt.pickT rfl (by assumption) rfl | exact Qt.pickF rfl (by assumption) rfl | exact Qt.pickT rfl rfl rfl | exact Qt.pickF rfl rfl rfl)) ?_
  refine RL.q (Qt.as rfl) ?_
  refine RL.nil ?_
  refine RE.sqN ?_
  refine RC.ret ?_
  -- stops: end ret
  exact RE.retB rfl ⟨rfl, rfl⟩ (hS.pick [3, 4] (by decide) rfl)
end Go.Proofs

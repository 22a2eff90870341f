/- The law ReadyFalls answers true. -/
import Derived.Test.YtlicnplclfclcaaRdW
namespace Go.Proofs
open Go Go.Gx
variable {oo : World}

set_option maxHeartbeats 4000000 in
theorem rdLawFalls (n : Int) (hn : 0 ≤ n ∧ n ≤ 255) (v : Value) (ds : List RDeed) (F0 : Frag) (hR : RDeedsAt v ds F0) (hd : ∀ x ∈ ds, x.ok) : Ct Try.prog 11 #[.int .u8 n, v] [pin F0] (fun v' ps => v' = .bool true ∧ ps = [pin F0]) := by
  refine Ct.enter Try.func11 rfl (Nat.le_of_ble_eq_true rfl) ?_
  intro oo w R hS
  change RC _ _ _ _ _ _ [(0, _), (1, _)] _
  have hkw : ∀ k : KKey, (wr #[.bool false, .int .u64 0, .int .u8 0] 0 k.cells).extract 0 (0 + 3) = k.cells.toArray := fun k => rfl
  have hke : ∀ k : KKey, k.cells.toArray.extract 0 (0 + 3) = k.cells.toArray := fun k => rfl
  refine RC.seq ?_
  refine RC.region rfl ?_
  refine RL.q (Qt.as rfl) ?_
  refine RL.nil ?_
  refine RE.sqN ?_
  refine RC.seq ?_
  refine RC.region rfl ?_
  refine RL.q (Qt.mv rfl) ?_
  refine RL.q (Qt.mv rfl) ?_
  -- stops: op call
  refine RL.e (Ef.call hS (rdPlay n hn v ds F0 hR hd) rfl rfl Try.call44 [0] [1] (by decide) rfl rfl) ?_
  rintro v17 w ⟨ps, ⟨b, r, l, rfl, hlm, rfl⟩, hS⟩
  refine RL.q (Qt.mv rfl) ?_
  refine RL.q (Qt.ext rfl rfl) ?_
  refine RL.q (Qt.ext rfl rfl) ?_
  refine RL.q (Qt.ext rfl rfl) ?_
  refine RL.q (Qt.as rfl) ?_
  refine RL.q (Qt.as rfl) ?_
  refine RL.q (Qt.as rfl) ?_
  refine RL.nil ?_
  refine RE.sqN ?_
  refine RC.seq ?_
  refine RC.seq ?_
  refine RC.region rfl ?_
  -- stops: op call
  refine RL.e (Ef.call hS (rdLive) rfl rfl Try.call45 [] [0, 1, 2, 3] (by decide) rfl rfl) ?_
  rintro v21 w ⟨ps, ⟨rfl, p', l', rfl⟩, hS⟩
  refine RL.q (Qt.not rfl) ?_
  refine RL.q (Qt.mv rfl) ?_
  refine RLG.start 23 false rfl ?_
  refine RLG.q rfl rfl rfl (fun _ => Qt.mv rfl) ?_
  refine RLG.q rfl rfl rfl (fun _ => Qt.not rfl) ?_
  refine RLG.or rfl rfl ?_
  refine RL.nil ?_
  refine RE.sqN ?_
  -- stops: cond
  refine RC.condF rfl (rfl) ?_
  refine RC.skip ?_
  refine RE.sqN ?_
  refine RC.seq ?_
  refine RC.region rfl ?_
  refine RL.q (Qt.mv rfl) ?_
  -- stops: op call
  have hS := hS.pick [1, 3, 4] (by decide) rfl
  obtain ⟨hok, hn2⟩ := sO_ok hS
  have hlen := hok.lenLe
  have hpl : (kIds l).length = l.length := List.length_map _
  refine RL.e (Ef.call hS (rdList _ _ _ _ l) rfl rfl Try.call47 [0] [1, 2] (by decide) rfl rfl) ?_
  rintro v28 w ⟨ps, rfl, hS⟩
  obtain ⟨sp, cap, rfl⟩ := hS.ownForm 0 rfl
  refine RL.q (Qt.as rfl) ?_
  refine RL.nil ?_
  refine RE.sqN ?_
  refine RC.seq ?_
  refine RC.region rfl ?_
  refine RL.e (Ef.alloc hS) ?_
  rintro _ w ⟨b9, rfl, hS⟩
  try simp (disch := omega) only [cells_agg'] at hS
  refine RL.nil ?_
  refine RE.sqN ?_
  refine RC.seq ?_
  refine RC.seq ?_
  refine RC.region rfl ?_
  refine RL.q (Qt.as rfl) ?_
  refine RL.nil ?_
  refine RE.sqN ?_
  refine RC.block ?_
  -- stops: loop
  refine RC.loop (γ := Nat × KKey) (fun g E w' => E = [(10, .int .i64 g.1), (9, .pointer (some ⟨b9, 0, none⟩)), (8, .slice sp (kIds l).length cap), (5, .pointer (some ⟨b, 0, none⟩))] ∧ g.1 ≤ l.length ∧ Sat oo w' [pt b9 (.cells g.2.cells.toArray 60 (0, 0)), ownI (.slice sp (kIds l).length cap) (kIds l), sO (.pointer (some ⟨b, 0, none⟩)) 10 (n % 10 + 1) 80 (l.drop g.1), pin F0, R] ∧ (g.1 = 0 ∨ ∃ h : g.1 - 1 < l.length, 0 < g.1 ∧ g.2 = l[g.1 - 1].k)) (fun g => l.length - g.1) (0, KKey.none) _ (by (repeat (first | exact Sub.nil | refine Sub.cons rfl ?_))) ⟨rfl, by simp, hS, .inl rfl⟩ ?_
  clear hS
  rintro ⟨k, pk⟩ E w ⟨rfl, hk, hS, hprev⟩
  dsimp only at hk hS hprev
  refine RC.seq ?_
  refine RC.seq ?_
  refine RC.region rfl ?_
  refine RL.q (Qt.mv rfl) ?_
  refine RL.q (Qt.mv rfl) ?_
  refine RL.q (Qt.lenS rfl) ?_
  refine RL.q (Qt.lss rfl rfl) ?_
  refine RL.nil ?_
  refine RE.sqN ?_
  -- stops: cond
  refine RC.cond rfl (fun h2 => ?_) (fun h2 => ?_)
  · skip
    have hlt : k < l.length := by
      have : (k : Int) < ((kIds l).length : Int) := of_decide_eq_true h2
      omega
    have hlt' : k < (kIds l).length := by omega
    have hd2 : l.drop k = l[k] :: l.drop (k + 1) := List.drop_eq_getElem_cons hlt
    have hg : (kIds l)[k] = l[k].id := by simp [kIds]
    rw [hd2] at hS
    obtain ⟨bs, cap', c, hv, hc1, hc2, hc3, hc4, hS⟩ := hS.ownPos 1 rfl (by omega)
    cases hv
    have hck : c.toList[0 + ((k : Nat) : Int).toNat * 1]? = some (.int .i64 l[k].id) := by rw [int_cell hc4 rfl hlt', hg]
    refine RC.skip ?_
    refine RE.sqN ?_
    refine RC.seq ?_
    refine RC.block ?_
    refine RC.seq ?_
    refine RC.region rfl ?_
    refine RL.q (Qt.mv rfl) ?_
    -- stops: op call
    refine RL.e (Ef.call hS (rdTake _ _ _ _ _) rfl rfl Try.call48 [2] [0, 1, 3, 4] (by decide) rfl rfl) ?_
    rintro v37 w ⟨ps, ⟨rfl, rfl⟩, hS⟩
    rw [show kTopId (l[k] :: l.drop (k + 1)) = l[k].id from rfl, show kTopK (l[k] :: l.drop (k + 1)) = l[k].k from rfl, show kTopOk (l[k] :: l.drop (k + 1)) = true from rfl]
    have f1 : decide (l[k].id ≠ l[k].id) = false := by simp
    refine RL.q (Qt.mv rfl) ?_
    refine RL.q (Qt.ext rfl rfl) ?_
    refine RL.q (Qt.ext rfl rfl) ?_
    refine RL.q (Qt.ext rfl rfl) ?_
    refine RL.e (Ef.alloc hS) ?_
    rintro _ w ⟨b12, rfl, hS⟩
    try simp (disch := omega) only [cells_agg'] at hS
    refine RL.q (Qt.as rfl) ?_
    first | refine RL.e0 (Ef.st hS 0 rfl rfl rfl (by rfl) (by rfl) (by first | exact Nat.le_of_ble_eq_true rfl | omega | (simp only [Array.size_map]; omega))) ?_ | refine RL.e0 (Ef.st hS 1 rfl rfl rfl (by rfl) (by rfl) (by first | exact Nat.le_of_ble_eq_true rfl | omega | (simp only [Array.size_map]; omega))) ?_ | refine RL.e0 (Ef.st hS 2 rfl rfl rfl (by rfl) (by rfl) (by first | exact Nat.le_of_ble_eq_true rfl | omega | (simp only [Array.size_map]; omega))) ?_ | refine RL.e0 (Ef.st hS 3 rfl rfl rfl (by rfl) (by rfl) (by first | exact Nat.le_of_ble_eq_true rfl | omega | (simp only [Array.size_map]; omega))) ?_ | refine RL.e0 (Ef.st hS 4 rfl rfl rfl (by rfl) (by rfl) (by first | exact Nat.le_of_ble_eq_true rfl | omega | (simp only [Array.size_map]; omega))) ?_ | refine RL.e0 (Ef.st hS 5 rfl rfl rfl (by rfl) (by rfl) (by first | exact Nat.le_of_ble_eq_true rfl | omega | (simp only [Array.size_map]; omega))) ?_
    intro _ w hS
    simp (disch := omega) only [List.set_cons_zero, cells_agg'] at hS
    refine RL.q (Qt.as rfl) ?_
    refine RL.nil ?_
    refine RE.sqN ?_
    refine RC.seq ?_
    refine RC.seq ?_
    refine RC.region rfl ?_
    refine RL.q (Qt.mv rfl) ?_
    refine RL.q (Qt.not rfl) ?_
    refine RL.q (Qt.mv rfl) ?_
    refine RLG.start 43 false rfl ?_
    refine RLG.q rfl rfl rfl (fun _ => Qt.mv rfl) ?_
    refine RLG.q rfl rfl rfl (fun _ => Qt.mv rfl) ?_
    refine RLG.q rfl rfl rfl (fun _ => Qt.mv rfl) ?_
    refine RLG.q rfl rfl rfl (fun hg => by (try simp only [decide_eq_true_eq, decide_eq_false_iff_not, Bool.or_eq_false_iff, Bool.and_eq_true, Bool.not_eq_true, Bool.not_eq_false, Option.isSome_some, Option.isNone_some] at hg); exact Qt.ixS rfl rfl (by first | assumption | omega | (dsimp only; omega)) (by first | assumption | omega | (dsimp only; omega))) ?_
    refine RLG.q rfl rfl rfl (fun hg => by (try simp only [decide_eq_true_eq, decide_eq_false_iff_not, Bool.or_eq_false_iff, Bool.and_eq_true, Bool.not_eq_true, Bool.not_eq_false, Option.isSome_some, Option.isNone_some] at hg); exact Qt.ld rfl (by first | exact hS.at 0 rfl | exact hS.at 1 rfl | exact hS.at 2 rfl | exact hS.at 3 rfl | exact hS.at 4 rfl | exact hS.at 5 rfl) (by first | exact hck | rfl)) ?_
    refine RLG.q rfl rfl rfl (fun hg => by (try simp only [decide_eq_true_eq, decide_eq_false_iff_not, Bool.or_eq_false_iff, Bool.and_eq_true, Bool.not_eq_true, Bool.not_eq_false, Option.isSome_some, Option.isNone_some] at hg); exact Qt.neq rfl rfl) ?_
    refine RLG.or rfl rfl ?_
    refine RL.q (Qt.mv rfl) ?_
    -- stops: guard
    rcases hprev with rfl | ⟨hk1, hk0, rfl⟩
    · skip
      refine RL.q (Qt.mv rfl) ?_ (Runs.guard rfl rfl rfl (by simp))
      refine RL.q (Qt.gtr rfl rfl) ?_ (Runs.guard rfl rfl rfl (by simp))
      refine RL.q (Qt.mv rfl) ?_ (Runs.guard rfl rfl rfl (by simp))
      refine RL.s (Skips.guard rfl rfl rfl (rfl)) ?_
      refine RL.s (Skips.guard rfl rfl rfl (rfl)) ?_
      refine RL.s (Skips.guard rfl rfl rfl (rfl)) ?_
      refine RL.q ((by first | exact Qt.pickT rfl (by assumption) rfl | exact Qt.pickF rfl (by assumption) rfl | exact Qt.pickT rfl rfl rfl | exact Qt.pickF rfl rfl rfl | exact Qt.pickF rfl (by simp) rfl)) ?_ (Runs.guard rfl rfl rfl (by simp))
      refine RL.q ((by first | exact Qt.pickT rfl (by assumption) rfl | exact Qt.pickF rfl (by assumption) rfl | exact Qt.pickT rfl rfl rfl | exact Qt.pickF rfl rfl rfl | exact Qt.pickF rfl (by simp) rfl)) ?_
      refine RL.nil ?_
      refine RE.sqN ?_
      -- stops: cond
      refine RC.condF rfl (rfl) ?_
      refine RC.skip ?_
      refine RE.sqN ?_
      refine RC.region rfl ?_
      refine RL.q (Qt.ldA rfl (by first | exact hS.at 0 rfl | exact hS.at 1 rfl | exact hS.at 2 rfl | exact hS.at 3 rfl | exact hS.at 4 rfl | exact hS.at 5 rfl) (by first | exact hkw _ | exact hke _ | rfl) (by first | exact Nat.le_of_ble_eq_true rfl | omega | (simp only [Array.size_map]; omega))) ?_
      first | refine RL.e0 (Ef.st hS 0 rfl rfl rfl (by rfl) (by rfl) (by first | exact Nat.le_of_ble_eq_true rfl | omega | (simp only [Array.size_map]; omega))) ?_ | refine RL.e0 (Ef.st hS 1 rfl rfl rfl (by rfl) (by rfl) (by first | exact Nat.le_of_ble_eq_true rfl | omega | (simp only [Array.size_map]; omega))) ?_ | refine RL.e0 (Ef.st hS 2 rfl rfl rfl (by rfl) (by rfl) (by first | exact Nat.le_of_ble_eq_true rfl | omega | (simp only [Array.size_map]; omega))) ?_ | refine RL.e0 (Ef.st hS 3 rfl rfl rfl (by rfl) (by rfl) (by first | exact Nat.le_of_ble_eq_true rfl | omega | (simp only [Array.size_map]; omega))) ?_ | refine RL.e0 (Ef.st hS 4 rfl rfl rfl (by rfl) (by rfl) (by first | exact Nat.le_of_ble_eq_true rfl | omega | (simp only [Array.size_map]; omega))) ?_ | refine RL.e0 (Ef.st hS 5 rfl rfl rfl (by rfl) (by rfl) (by first | exact Nat.le_of_ble_eq_true rfl | omega | (simp only [Array.size_map]; omega))) ?_
      intro _ w hS
      simp (disch := omega) only [List.set_cons_succ, cells_agg', Nat.zero_add] at hS
      refine RL.nil ?_
      refine RE.bkN ?_
      refine RE.sqN ?_
      refine RC.region rfl ?_
      refine RL.q (Qt.mv rfl) ?_
      refine RL.q ((by first | exact Qt.addI rfl rfl (by dsimp only [inK]; omega) | exact Qt.add rfl rfl)) ?_
      refine RL.q (Qt.as rfl) ?_
      refine RL.nil ?_
      -- stops: next
      have hS := (hS.pick [2, 3, 1, 4, 5] (by decide) rfl).ownMk (cap := cap) (n := (kIds l).length) (sz := 1) (cs := ints (kIds l)) 1 rfl hc1 hc2 hc3 hc4
      apply RE.lpN ((0 + 1, l[0].k))
      case hI => exact ⟨rfl, hlt, hS, .inr ⟨hlt, by dsimp only; omega, rfl⟩⟩
      case hs => (repeat (first | exact Sub.nil | refine Sub.cons rfl ?_))
      case hm =>
        show l.length - (0 + 1) < l.length - 0
        omega
    · have hs : kAbove l[k].k l[k - 1].k = false := List.pairwise_iff_getElem.1 hok.sorted (k - 1) k hk1 hlt (by omega)
      have f3 : decide ((k : Int) > 0) = true := decide_eq_true (by omega)
      refine RL.q (Qt.mv rfl) ?_ (Runs.guard rfl rfl rfl (by simp))
      refine RL.q (Qt.gtr rfl rfl) ?_ (Runs.guard rfl rfl rfl (by simp))
      refine RL.q (Qt.mv rfl) ?_ (Runs.guard rfl rfl rfl (by simp))
      refine RL.q (Qt.ldA rfl (by first | exact hS.at 0 rfl | exact hS.at 1 rfl | exact hS.at 2 rfl | exact hS.at 3 rfl | exact hS.at 4 rfl | exact hS.at 5 rfl) (by first | exact hkw _ | exact hke _ | rfl) (by first | exact Nat.le_of_ble_eq_true rfl | omega | (simp only [Array.size_map]; omega))) ?_ (Runs.guard rfl rfl rfl (f3))
      refine RL.q (Qt.ldA rfl (by first | exact hS.at 0 rfl | exact hS.at 1 rfl | exact hS.at 2 rfl | exact hS.at 3 rfl | exact hS.at 4 rfl | exact hS.at 5 rfl) (by first | exact hkw _ | exact hke _ | rfl) (by first | exact Nat.le_of_ble_eq_true rfl | omega | (simp only [Array.size_map]; omega))) ?_ (Runs.guard rfl rfl rfl (f3))
      -- stops: op call
      refine RL.e (Ef.call hS (rkAbove l[k].k l[k - 1].k) rfl rfl Try.call49 [] [0, 1, 2, 3, 4, 5] (by decide) rfl rfl) ?_ (Runs.guard rfl rfl rfl (f3))
      rintro v57 w ⟨ps, ⟨rfl, rfl⟩, hS⟩
      try rw [List.nil_append] at hS
      refine RL.q ((by first | exact Qt.pickT rfl (by assumption) rfl | exact Qt.pickF rfl (by assumption) rfl | exact Qt.pickT rfl rfl rfl | exact Qt.pickF rfl rfl rfl | exact Qt.pickT rfl (f3) rfl | exact Qt.pickF rfl (by simp) rfl)) ?_ (Runs.guard rfl rfl rfl (by simp))
      refine RL.q ((by first | exact Qt.pickT rfl (by assumption) rfl | exact Qt.pickF rfl (by assumption) rfl | exact Qt.pickT rfl rfl rfl | exact Qt.pickF rfl rfl rfl | exact Qt.pickT rfl (f3) rfl | exact Qt.pickF rfl (by simp) rfl)) ?_
      refine RL.nil ?_
      refine RE.sqN ?_
      -- stops: cond
      refine RC.condF rfl (hs) ?_
      refine RC.skip ?_
      refine RE.sqN ?_
      refine RC.region rfl ?_
      refine RL.q (Qt.ldA rfl (by first | exact hS.at 0 rfl | exact hS.at 1 rfl | exact hS.at 2 rfl | exact hS.at 3 rfl | exact hS.at 4 rfl | exact hS.at 5 rfl) (by first | exact hkw _ | exact hke _ | rfl) (by first | exact Nat.le_of_ble_eq_true rfl | omega | (simp only [Array.size_map]; omega))) ?_
      first | refine RL.e0 (Ef.st hS 0 rfl rfl rfl (by rfl) (by rfl) (by first | exact Nat.le_of_ble_eq_true rfl | omega | (simp only [Array.size_map]; omega))) ?_ | refine RL.e0 (Ef.st hS 1 rfl rfl rfl (by rfl) (by rfl) (by first | exact Nat.le_of_ble_eq_true rfl | omega | (simp only [Array.size_map]; omega))) ?_ | refine RL.e0 (Ef.st hS 2 rfl rfl rfl (by rfl) (by rfl) (by first | exact Nat.le_of_ble_eq_true rfl | omega | (simp only [Array.size_map]; omega))) ?_ | refine RL.e0 (Ef.st hS 3 rfl rfl rfl (by rfl) (by rfl) (by first | exact Nat.le_of_ble_eq_true rfl | omega | (simp only [Array.size_map]; omega))) ?_ | refine RL.e0 (Ef.st hS 4 rfl rfl rfl (by rfl) (by rfl) (by first | exact Nat.le_of_ble_eq_true rfl | omega | (simp only [Array.size_map]; omega))) ?_ | refine RL.e0 (Ef.st hS 5 rfl rfl rfl (by rfl) (by rfl) (by first | exact Nat.le_of_ble_eq_true rfl | omega | (simp only [Array.size_map]; omega))) ?_
      intro _ w hS
      simp (disch := omega) only [List.set_cons_zero, List.set_cons_succ, cells_agg'] at hS
      refine RL.nil ?_
      refine RE.bkN ?_
      refine RE.sqN ?_
      refine RC.region rfl ?_
      refine RL.q (Qt.mv rfl) ?_
      refine RL.q ((by first | exact Qt.addI rfl rfl (by dsimp only [inK]; omega) | exact Qt.add rfl rfl)) ?_
      refine RL.q (Qt.as rfl) ?_
      refine RL.nil ?_
      -- stops: next
      have hS := (hS.pick [2, 3, 1, 4, 5] (by decide) rfl).ownMk (cap := cap) (n := (kIds l).length) (sz := 1) (cs := ints (kIds l)) 1 rfl hc1 hc2 hc3 hc4
      apply RE.lpN ((k + 1, l[k].k))
      case hI => exact ⟨rfl, hlt, hS, .inr ⟨hlt, by dsimp only; omega, rfl⟩⟩
      case hs => (repeat (first | exact Sub.nil | refine Sub.cons rfl ?_))
      case hm =>
        show l.length - (k + 1) < l.length - k
        omega
  · skip
    have hge : l.length ≤ k := by
      have : ¬ (k : Int) < ((kIds l).length : Int) := of_decide_eq_false h2
      omega
    rw [List.drop_of_length_le hge] at hS
    refine RC.exit ?_
    refine RE.sqX ?_
    refine RE.lpX ?_
    refine RE.bkX ?_
    refine RE.sqN ?_
    refine RC.seq ?_
    refine RC.region rfl ?_
    refine RL.q (Qt.mv rfl) ?_
    -- stops: op call
    refine RL.e (Ef.call hS (rdTake _ _ _ _ _) rfl rfl Try.call48 [2] [0, 1, 3, 4] (by decide) rfl rfl) ?_
    rintro v63 w ⟨ps, ⟨rfl, rfl⟩, hS⟩
    refine RL.q (Qt.mv rfl) ?_
    refine RL.q (Qt.ext rfl rfl) ?_
    refine RL.q (Qt.ext rfl rfl) ?_
    refine RL.q (Qt.ext rfl rfl) ?_
    refine RL.q (Qt.as rfl) ?_
    refine RL.nil ?_
    refine RE.sqN ?_
    refine RC.seq ?_
    refine RC.region rfl ?_
    refine RL.q (Qt.mv rfl) ?_
    refine RL.q (Qt.not rfl) ?_
    refine RL.q (Qt.mv rfl) ?_
    -- stops: guard
    refine RL.q (Qt.mv rfl) ?_ (Runs.guard rfl rfl rfl (rfl))
    -- stops: op call
    refine RL.e (Ef.call hS (rdLen _ _ _ _ _) rfl rfl Try.call50 [0] [1, 2, 3, 4] (by decide) rfl rfl) ?_ (Runs.guard rfl rfl rfl (rfl))
    rintro v71 w ⟨ps, ⟨rfl, rfl⟩, hS⟩
    refine RL.q (Qt.eql rfl rfl) ?_ (Runs.guard rfl rfl rfl (rfl))
    refine RL.q ((by first | exact Qt.pickT rfl (by assumption) rfl | exact Qt.pickF rfl (by assumption) rfl | exact Qt.pickT rfl rfl rfl | exact Qt.pickF rfl rfl rfl)) ?_
    refine RL.q (Qt.as rfl) ?_
    refine RL.nil ?_
    refine RE.sqN ?_
    refine RC.ret ?_
    -- stops: end ret
    exact RE.retB rfl ⟨rfl, rfl⟩ (hS.pick [3, 4] (by decide) rfl)
end Go.Proofs

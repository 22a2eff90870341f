/- The laws of layer 3 answer true: PheapPlays, PheapDeletes, PheapChanges, PheapForks, PheapPuts. -/
import Derived.Test.YtlicnplclfclcaaPhW
namespace Go.Proofs
open Go Go.Gx
variable {oo : World}

set_option maxHeartbeats 1000000 in
theorem phLawPlays (n : Int) (hn : 0 ≤ n ∧ n ≤ 255) (v : Value) (ds : List PDeed) (id : Int) (F0 : Frag) (hR : PDeedsAt v ds F0) (hd : ∀ x ∈ ds, x.ok) : Ct Try.prog 5 #[.int .u8 n, v, .int .i64 id] [pin F0] (fun v' ps => v' = .bool true ∧ ps = [pin F0]) := by
  refine Ct.enter Try.func5 rfl (Nat.le_of_ble_eq_true rfl) ?_
  intro oo w R hS
  change RC _ _ _ _ _ _ [(0, _), (1, _), (2, _)] _
  refine RC.seq ?_
  refine RC.region rfl ?_
  refine RL.q (Qt.as rfl) ?_
  refine RL.nil ?_
  refine RE.sqN ?_
  refine RC.seq ?_
  refine RC.region rfl ?_
  refine RL.q (Qt.mv rfl) ?_
  refine RL.q (Qt.mv rfl) ?_
  -- stops: op call
  refine RL.e (Ef.call hS (phPlay n hn v ds F0 hR hd) rfl rfl Try.call28 [0] [1] (by decide) rfl rfl) ?_
  rintro v13 w ⟨ps, ⟨b, r, l, rfl, hnn, rfl⟩, hS⟩
  refine RL.q (Qt.mv rfl) ?_
  refine RL.q (Qt.ext rfl rfl) ?_
  refine RL.q (Qt.ext rfl rfl) ?_
  refine RL.q (Qt.ext rfl rfl) ?_
  refine RL.q (Qt.as rfl) ?_
  refine RL.q (Qt.as rfl) ?_
  refine RL.q (Qt.as rfl) ?_
  refine RL.nil ?_
  refine RE.sqN ?_
  refine RC.seq ?_
  refine RC.region rfl ?_
  -- stops: op call
  refine RL.e (Ef.call hS (phLive) rfl rfl Try.call29 [] [0, 1, 2, 3] (by decide) rfl rfl) ?_
  rintro v17 w ⟨ps, ⟨rfl, p', l', rfl⟩, hS⟩
  refine RL.q (Qt.mv rfl) ?_
  refine RLG.start 18 true rfl ?_
  refine RLG.q rfl rfl rfl (fun _ => Qt.mv rfl) ?_
  refine RLG.and rfl rfl ?_
  refine RL.q (Qt.mv rfl) ?_
  -- stops: guard
  refine RL.q (Qt.mv rfl) ?_ (Runs.guard rfl rfl rfl (rfl))
  refine RL.q (Qt.mv rfl) ?_ (Runs.guard rfl rfl rfl (rfl))
  refine RL.q (Qt.mv rfl) ?_ (Runs.guard rfl rfl rfl (rfl))
  -- stops: op call
  refine RL.e (Ef.call hS (phSame _ r _ l id) rfl rfl Try.call37 [1, 2] [0, 3, 4] (by decide) rfl rfl) ?_ (Runs.guard rfl rfl rfl (rfl))
  rintro v25 w ⟨ps, ⟨rfl, rfl⟩, hS⟩
  refine RL.q ((by first | exact Qt.pickT rfl (by assumption) rfl | exact Qt.pickF rfl (by assumption) rfl | exact Qt.pickT rfl rfl rfl | exact Qt.pickF rfl rfl rfl)) ?_
  refine RL.q (Qt.as rfl) ?_
  refine RL.nil ?_
  refine RE.sqN ?_
  refine RC.ret ?_
  -- stops: end ret
  exact RE.retB rfl ⟨rfl, rfl⟩ (hS.pick [3, 4] (by decide) rfl)

set_option maxHeartbeats 2000000 in
theorem phLawDeletes (n : Int) (hn : 0 ≤ n ∧ n ≤ 255) (v : Value) (ds : List PDeed) (id : Int) (F0 : Frag) (hR : PDeedsAt v ds F0) (hd : ∀ x ∈ ds, x.ok) : Ct Try.prog 3 #[.int .u8 n, v, .int .i64 id] [pin F0] (fun v' ps => v' = .bool true ∧ ps = [pin F0]) := by
  refine Ct.enter Try.func3 rfl (Nat.le_of_ble_eq_true rfl) ?_
  intro oo w R hS
  change RC _ _ _ _ _ _ [(0, _), (1, _), (2, _)] _
  refine RC.seq ?_
  refine RC.region rfl ?_
  refine RL.q (Qt.as rfl) ?_
  refine RL.nil ?_
  refine RE.sqN ?_
  refine RC.seq ?_
  refine RC.region rfl ?_
  refine RL.q (Qt.mv rfl) ?_
  refine RL.q (Qt.mv rfl) ?_
  -- stops: op call
  refine RL.e (Ef.call hS (phPlay n hn v ds F0 hR hd) rfl rfl Try.call28 [0] [1] (by decide) rfl rfl) ?_
  rintro v18 w ⟨ps, ⟨b, r, l, rfl, hnn, rfl⟩, hS⟩
  refine RL.q (Qt.mv rfl) ?_
  refine RL.q (Qt.ext rfl rfl) ?_
  refine RL.q (Qt.ext rfl rfl) ?_
  refine RL.q (Qt.ext rfl rfl) ?_
  refine RL.q (Qt.as rfl) ?_
  refine RL.q (Qt.as rfl) ?_
  refine RL.q (Qt.as rfl) ?_
  refine RL.nil ?_
  refine RE.sqN ?_
  refine RC.seq ?_
  refine RC.seq ?_
  refine RC.region rfl ?_
  -- stops: op call
  refine RL.e (Ef.call hS (phLive) rfl rfl Try.call29 [] [0, 1, 2, 3] (by decide) rfl rfl) ?_
  rintro v22 w ⟨ps, ⟨rfl, p', l', rfl⟩, hS⟩
  refine RL.q (Qt.not rfl) ?_
  refine RL.q (Qt.mv rfl) ?_
  refine RLG.start 24 false rfl ?_
  refine RLG.q rfl rfl rfl (fun _ => Qt.mv rfl) ?_
  refine RLG.q rfl rfl rfl (fun _ => Qt.not rfl) ?_
  refine RLG.or rfl rfl ?_
  refine RL.nil ?_
  refine RE.sqN ?_
  -- stops: cond
  refine RC.condF rfl (rfl) ?_
  refine RC.skip ?_
  refine RE.sqN ?_
  refine RC.seq ?_
  refine RC.region rfl ?_
  refine RL.q (Qt.as rfl) ?_
  refine RL.nil ?_
  refine RE.sqN ?_
  refine RC.seq ?_
  refine RC.region rfl ?_
  refine RL.q (Qt.mv rfl) ?_
  -- stops: op call
  have hS := hS.pick [1, 3, 4] (by decide) rfl
  obtain ⟨hok, hn1, hn2⟩ := hO_pok hS
  have hlen := hok.lenLe
  have hpl : (pIds l).length = l.length := List.length_map _
  refine RL.e (Ef.call hS (phList _ _ l) rfl rfl Try.call30 [0] [1, 2] (by decide) rfl rfl) ?_
  rintro v29 w ⟨ps, rfl, hS⟩
  refine RL.q (Qt.as rfl) ?_
  refine RL.nil ?_
  refine RE.sqN ?_
  refine RC.seq ?_
  refine RC.region rfl ?_
  refine RL.q (Qt.as rfl) ?_
  refine RL.nil ?_
  refine RE.sqN ?_
  refine RC.seq ?_
  refine RC.seq ?_
  refine RC.region rfl ?_
  refine RL.q (Qt.as rfl) ?_
  refine RL.nil ?_
  refine RE.sqN ?_
  refine RC.block ?_
  -- stops: loop
  obtain ⟨sp, cap, rfl⟩ := hS.ownForm 0 rfl
  have hS := hS.nilOwn (T := 3) (sz := 1)
  refine RC.loop (γ := Nat × Value) (fun g E w' => E = [(13, .int .i64 g.1), (12, .bool (decide (id ∈ (pIds l).take g.1))), (11, .slice sp (pIds l).length cap), (10, g.2), (7, .pointer (some ⟨b, 0, none⟩)), (2, .int .i64 id)] ∧ g.1 ≤ (pIds l).length ∧ Sat oo w' [ownI g.2 (((pIds l).take g.1).filter fun a => decide (a ≠ id)), ownI (.slice sp (pIds l).length cap) (pIds l), hO (.pointer (some ⟨b, 0, none⟩)) (n % 16 + 1).toNat l, pin F0, R]) (fun g => (pIds l).length - g.1) (0, .slice none 0 0) _ (by (repeat (first | exact Sub.nil | refine Sub.cons rfl ?_))) ⟨rfl, by simp, hS⟩ ?_
  clear hS
  rintro ⟨k, wv⟩ E w ⟨rfl, hk, hS⟩
  dsimp only at hk hS
  refine RC.seq ?_
  refine RC.seq ?_
  refine RC.region rfl ?_
  refine RL.q (Qt.mv rfl) ?_
  refine RL.q (Qt.mv rfl) ?_
  refine RL.q (Qt.lenS rfl) ?_
  refine RL.q (Qt.lss rfl rfl) ?_
  refine RL.nil ?_
  refine RE.sqN ?_
  -- stops: cond
  refine RC.cond rfl (fun h2 => ?_) (fun h2 => ?_)
  · skip
    have hlt : k < (pIds l).length := by simpa using h2
    have htk : (pIds l).take (k + 1) = (pIds l).take k ++ [(pIds l)[k]] := List.take_succ_eq_append_getElem hlt
    have hfl : (((pIds l).take k).filter fun a => decide (a ≠ id)).length ≤ k := Nat.le_trans (List.length_filter_le _ _) (by rw [List.length_take]; omega)
    have hS0 := hS
    obtain ⟨bs, cap', c, hv, hc1, hc2, hc3, hc4, hS⟩ := hS.ownPos 1 rfl (by omega)
    cases hv
    refine RC.skip ?_
    refine RE.sqN ?_
    refine RC.seq ?_
    refine RC.block ?_
    refine RC.seq ?_
    refine RC.seq ?_
    refine RC.region rfl ?_
    refine RL.q (Qt.mv rfl) ?_
    refine RL.q (Qt.mv rfl) ?_
    refine RL.q (Qt.ixS rfl rfl (by first | assumption | omega | (dsimp only; omega)) (by first | assumption | omega | (dsimp only; omega))) ?_
    refine RL.q (Qt.ld rfl (by first | exact hS.at 0 rfl | exact hS.at 1 rfl | exact hS.at 2 rfl | exact hS.at 3 rfl | exact hS.at 4 rfl) (by first | exact int_cell hc4 rfl hlt | rfl)) ?_
    refine RL.q (Qt.mv rfl) ?_
    refine RL.q (Qt.eql rfl rfl) ?_
    refine RL.nil ?_
    refine RE.sqN ?_
    -- stops: cond
    refine RC.cond rfl (fun h3 => ?_) (fun h3 => ?_)
    · refine RC.seq ?_
      refine RC.region rfl ?_
      refine RL.q (Qt.as rfl) ?_
      refine RL.nil ?_
      refine RE.sqN ?_
      refine RC.exit ?_
      refine RE.sqX ?_
      refine RE.bkX ?_
      refine RE.sqN ?_
      refine RC.region rfl ?_
      refine RL.q (Qt.mv rfl) ?_
      refine RL.q ((by first | exact Qt.addI rfl rfl (by dsimp only [inK]; omega) | exact Qt.add rfl rfl)) ?_
      refine RL.q (Qt.as rfl) ?_
      refine RL.nil ?_
      -- stops: next
      have h3 : (pIds l)[k] = id := of_decide_eq_true h3
      have e1 : ((pIds l).take (k + 1)).filter (fun a => decide (a ≠ id)) = ((pIds l).take k).filter (fun a => decide (a ≠ id)) := by
        rw [htk, List.filter_append, List.filter_cons, if_neg (by simpa using h3), List.filter_nil, List.append_nil]
      have e2 : decide (id ∈ (pIds l).take (k + 1)) = true := by
        rw [htk]
        exact decide_eq_true (by rw [List.mem_append, List.mem_singleton]; exact .inr h3.symm)
      apply RE.lpN ((k + 1, wv))
      case hI => exact ⟨by rw [e2], hlt, by dsimp only; rw [e1]; exact hS0⟩
      case hs => (repeat (first | exact Sub.nil | refine Sub.cons rfl ?_))
      case hm =>
        show (pIds l).length - (k + 1) < (pIds l).length - k
        omega
    · skip
      have h3 : (pIds l)[k] ≠ id := of_decide_eq_false h3
      obtain ⟨spw, cpw, rfl⟩ := hS.ownForm 0 rfl
      refine RC.skip ?_
      refine RE.sqN ?_
      refine RC.region rfl ?_
      refine RL.q (Qt.mv rfl) ?_
      refine RL.q (Qt.mv rfl) ?_
      refine RL.q (Qt.mv rfl) ?_
      refine RL.q (Qt.ixS rfl rfl (by first | assumption | omega | (dsimp only; omega)) (by first | assumption | omega | (dsimp only; omega))) ?_
      refine RL.q (Qt.ld rfl (by first | exact hS.at 0 rfl | exact hS.at 1 rfl | exact hS.at 2 rfl | exact hS.at 3 rfl | exact hS.at 4 rfl) (by first | exact int_cell hc4 rfl hlt | rfl)) ?_
      refine RL.e (Ef.bsl1 hS rfl) ?_
      rintro _ w ⟨b47, rfl, hS⟩
      try simp (disch := omega) only [List.set_cons_zero, List.set_cons_succ, cells_int'] at hS
      first | refine RL.e (Ef.app (k := 1) hS rfl rfl rfl (Src.pt (hS.get 0 rfl) (by first | exact Nat.le_of_ble_eq_true rfl | omega | (simp only [Array.size_map]; omega))) (by first | assumption | omega | (dsimp only; omega)) (by first | rfl | simp)) ?_ | refine RL.e (Ef.app (k := 1) hS rfl rfl rfl (Src.pt (hS.get 1 rfl) (by first | exact Nat.le_of_ble_eq_true rfl | omega | (simp only [Array.size_map]; omega))) (by first | assumption | omega | (dsimp only; omega)) (by first | rfl | simp)) ?_ | refine RL.e (Ef.app (k := 1) hS rfl rfl rfl (Src.pt (hS.get 2 rfl) (by first | exact Nat.le_of_ble_eq_true rfl | omega | (simp only [Array.size_map]; omega))) (by first | assumption | omega | (dsimp only; omega)) (by first | rfl | simp)) ?_ | refine RL.e (Ef.app (k := 1) hS rfl rfl rfl (Src.pt (hS.get 3 rfl) (by first | exact Nat.le_of_ble_eq_true rfl | omega | (simp only [Array.size_map]; omega))) (by first | assumption | omega | (dsimp only; omega)) (by first | rfl | simp)) ?_ | refine RL.e (Ef.app (k := 1) hS rfl rfl rfl (Src.pt (hS.get 4 rfl) (by first | exact Nat.le_of_ble_eq_true rfl | omega | (simp only [Array.size_map]; omega))) (by first | assumption | omega | (dsimp only; omega)) (by first | rfl | simp)) ?_ | refine RL.e (Ef.app (k := 1) hS rfl rfl rfl (Src.pt (hS.get 5 rfl) (by first | exact Nat.le_of_ble_eq_true rfl | omega | (simp only [Array.size_map]; omega))) (by first | assumption | omega | (dsimp only; omega)) (by first | rfl | simp)) ?_ | refine RL.e (Ef.app (k := 1) hS rfl rfl rfl (Src.own hS 0 rfl) (by first | assumption | omega | (dsimp only; omega)) (by first | rfl | simp)) ?_ | refine RL.e (Ef.app (k := 1) hS rfl rfl rfl (Src.own hS 1 rfl) (by first | assumption | omega | (dsimp only; omega)) (by first | rfl | simp)) ?_ | refine RL.e (Ef.app (k := 1) hS rfl rfl rfl (Src.own hS 2 rfl) (by first | assumption | omega | (dsimp only; omega)) (by first | rfl | simp)) ?_ | refine RL.e (Ef.app (k := 1) hS rfl rfl rfl (Src.own hS 3 rfl) (by first | assumption | omega | (dsimp only; omega)) (by first | rfl | simp)) ?_ | refine RL.e (Ef.app (k := 1) hS rfl rfl rfl (Src.own hS 4 rfl) (by first | assumption | omega | (dsimp only; omega)) (by first | rfl | simp)) ?_ | refine RL.e (Ef.app (k := 1) hS rfl rfl rfl (Src.own hS 5 rfl) (by first | assumption | omega | (dsimp only; omega)) (by first | rfl | simp)) ?_
      intro s48 w hS
      simp only [List.set_cons_zero, List.set_cons_succ, List.drop_zero] at hS
      first | (obtain ⟨sp48, cp48, rfl⟩ := hS.ownForm 1 rfl)
      refine RL.q (Qt.as rfl) ?_
      refine RL.nil ?_
      refine RE.bkN ?_
      refine RE.sqN ?_
      refine RC.region rfl ?_
      refine RL.q (Qt.mv rfl) ?_
      refine RL.q ((by first | exact Qt.addI rfl rfl (by dsimp only [inK]; omega) | exact Qt.add rfl rfl)) ?_
      refine RL.q (Qt.as rfl) ?_
      refine RL.nil ?_
      -- stops: next
      have e1 : ((pIds l).take (k + 1)).filter (fun a => decide (a ≠ id)) = ((pIds l).take k).filter (fun a => decide (a ≠ id)) ++ [(pIds l)[k]] := by
        rw [htk, List.filter_append, List.filter_cons, if_pos (by simpa using h3), List.filter_nil]
      have e2 : decide (id ∈ (pIds l).take (k + 1)) = decide (id ∈ (pIds l).take k) := by
        rw [htk]
        exact decide_eq_decide.2 (by rw [List.mem_append, List.mem_singleton]; exact ⟨fun h => h.resolve_right (Ne.symm h3), .inl⟩)
      have hS := hS.pick [1, 2, 3, 4, 5] (by decide) rfl
      have hS := hS.ownMk (cap := cap) (n := (pIds l).length) (sz := 1) (cs := ints (pIds l)) 1 rfl hc1 hc2 hc3 hc4
      apply RE.lpN ((k + 1, .slice sp48 ((((pIds l).take k).filter (fun a => decide (a ≠ id))).length + 1) cp48))
      case hI =>
        refine ⟨by rw [e2], hlt, ?_⟩
        dsimp only
        unfold ownI
        rw [e1, len_snoc, ints, List.map_append]
        exact hS
      case hs => (repeat (first | exact Sub.nil | refine Sub.cons rfl ?_))
      case hm =>
        show (pIds l).length - (k + 1) < (pIds l).length - k
        omega
  · skip
    have hge : k = (pIds l).length := by
      have : ¬ k < (pIds l).length := by simpa using h2
      omega
    rw [hge, List.take_length] at hS ⊢
    rw [← pout_ids] at hS
    have hdel : pDel l (n % 16 + 1).toNat id = pout l id := by
      unfold pDel; split
      · rfl
      · rename_i h
        refine (pout_not fun hm => h (pErr_ok1 ?_ hm)).symm
        obtain ⟨y, hy, e⟩ := List.mem_map.1 hm
        have := hok.range y hy
        omega
    have her : decide (id ∈ pIds l) = decide (pErr l (n % 16 + 1).toNat id true = 0) := by
      refine decide_eq_decide.2 ⟨fun hm => pErr_ok1 ?_ hm, fun h => (pErr_is1 h).2⟩
      obtain ⟨y, hy, e⟩ := List.mem_map.1 hm
      have := hok.range y hy
      omega
    have hok2 : (pIds (pout l id)).length ≤ 1000000 := by
      rw [pIds, List.length_map]
      have : (pout l id).length ≤ l.length := List.length_filter_le _ _
      omega
    obtain ⟨spw, cpw, rfl⟩ := hS.ownForm 0 rfl
    refine RC.exit ?_
    refine RE.sqX ?_
    refine RE.lpX ?_
    refine RE.bkX ?_
    refine RE.sqN ?_
    refine RC.seq ?_
    refine RC.region rfl ?_
    refine RL.q (Qt.mv rfl) ?_
    refine RL.q (Qt.mv rfl) ?_
    -- stops: op call
    refine RL.e (Ef.call hS (phDelete _ _ l id) rfl rfl Try.call31 [2] [0, 1, 3, 4] (by decide) rfl rfl) ?_
    rintro v51 w ⟨ps, ⟨rfl, rfl⟩, hS⟩
    rw [hdel] at hS
    refine RL.q (Qt.as rfl) ?_
    refine RL.nil ?_
    refine RE.sqN ?_
    refine RC.seq ?_
    refine RC.region rfl ?_
    refine RL.q (Qt.mv rfl) ?_
    refine RL.q (Qt.mv rfl) ?_
    refine RL.q (Qt.eql rfl rfl) ?_
    refine RL.q (Qt.eqlB rfl rfl) ?_
    refine RL.q (Qt.mv rfl) ?_
    -- stops: guard
    refine RL.q (Qt.mv rfl) ?_ (Runs.guard rfl rfl rfl (by simp [her]))
    -- stops: op call
    refine RL.e (Ef.call hS (phList _ _ (pout l id)) rfl rfl Try.call30 [0] [1, 2, 3, 4] (by decide) rfl rfl) ?_ (Runs.guard rfl rfl rfl (by simp [her]))
    rintro v58 w ⟨ps, rfl, hS⟩
    refine RL.q (Qt.mv rfl) ?_ (Runs.guard rfl rfl rfl (by simp [her]))
    -- stops: op call
    refine RL.e (Ef.call hS (rSame _ _ (pIds (pout l id)) (pIds (pout l id)) hok2) rfl rfl Try.call32 [0, 2] [1, 3, 4, 5] (by decide) rfl rfl) ?_ (Runs.guard rfl rfl rfl (by simp [her]))
    rintro v60 w ⟨ps, ⟨rfl, rfl⟩, hS⟩
    refine RL.q ((by first | exact Qt.pickT rfl (by assumption) rfl | exact Qt.pickF rfl (by assumption) rfl | exact Qt.pickT rfl rfl rfl | exact Qt.pickF rfl rfl rfl | exact Qt.pickT rfl (by simp [her]) rfl)) ?_
    refine RL.q (Qt.mv rfl) ?_
    -- stops: guard
    refine RL.q (Qt.mv rfl) ?_ (Runs.guard rfl rfl rfl (by simp []))
    -- stops: op call
    refine RL.e (Ef.call hS (phLen _ _ (pout l id)) rfl rfl Try.call33 [0] [1, 2, 3] (by decide) rfl rfl) ?_ (Runs.guard rfl rfl rfl (by simp []))
    rintro v64 w ⟨ps, ⟨rfl, rfl⟩, hS⟩
    refine RL.q (Qt.mv rfl) ?_ (Runs.guard rfl rfl rfl (by simp []))
    refine RL.q (Qt.lenS rfl) ?_ (Runs.guard rfl rfl rfl (by simp []))
    refine RL.q (Qt.eql rfl rfl) ?_ (Runs.guard rfl rfl rfl (by simp []))
    refine RL.q ((by first | exact Qt.pickT rfl (by assumption) rfl | exact Qt.pickF rfl (by assumption) rfl | exact Qt.pickT rfl rfl rfl | exact Qt.pickF rfl rfl rfl | exact Qt.pickT rfl (by simp []) rfl)) ?_
    refine RL.q (Qt.as rfl) ?_
    refine RL.nil ?_
    refine RE.sqN ?_
    refine RC.ret ?_
    -- stops: end ret
    have hpo : (pIds (pout l id)).length = (pout l id).length := List.length_map _
    have hpo2 : (List.filter (fun a => decide (a ≠ id)) (pIds l)).length = (pout l id).length := by rw [← pout_ids, hpo]
    refine RE.retB rfl ⟨?_, rfl⟩ (hS.pick [2, 3] (by decide) rfl)
    simp [oneOf, hpo]

set_option maxHeartbeats 2000000 in
theorem phLawChanges (n : Int) (hn : 0 ≤ n ∧ n ≤ 255) (v : Value) (ds : List PDeed) (x : PDeed) (F0 : Frag) (hR : PDeedsAt v ds F0) (hd : ∀ x ∈ ds, x.ok) : Ct Try.prog 7 #[.int .u8 n, v, x.val] [pin F0] (fun v' ps => v' = .bool true ∧ ps = [pin F0]) := by
  refine Ct.enter Try.func7 rfl (Nat.le_of_ble_eq_true rfl) ?_
  intro oo w R hS
  change RC _ _ _ _ _ _ [(0, _), (1, _), (2, _)] _
  refine RC.seq ?_
  refine RC.region rfl ?_
  refine RL.e (Ef.box hS rfl) ?_
  rintro _ w ⟨b5, rfl, hS⟩
  try simp (disch := omega) only [List.set_cons_zero, List.set_cons_succ, cells_int, cells_bool, cells_ptr, cells_slice, cells_func, cells_agg, cells_map, cells_int', cells_bool', cells_ptr', cells_slice', cells_agg', cells_map', cells_func', Nat.zero_add, wr, List.setIfInBounds_toArray] at hS
  refine RL.q (Qt.as rfl) ?_
  refine RL.nil ?_
  refine RE.sqN ?_
  refine RC.seq ?_
  refine RC.region rfl ?_
  refine RL.q (Qt.mv rfl) ?_
  refine RL.q (Qt.mv rfl) ?_
  -- stops: op call
  refine RL.e (Ef.call hS (phPlay n hn v ds F0 hR hd) rfl rfl Try.call28 [1] [0, 2] (by decide) rfl rfl) ?_
  rintro v20 w ⟨ps, ⟨b, r, l, rfl, hnn, rfl⟩, hS⟩
  refine RL.q (Qt.mv rfl) ?_
  refine RL.q (Qt.ext rfl rfl) ?_
  refine RL.q (Qt.ext rfl rfl) ?_
  refine RL.q (Qt.ext rfl rfl) ?_
  refine RL.q (Qt.as rfl) ?_
  refine RL.q (Qt.as rfl) ?_
  refine RL.q (Qt.as rfl) ?_
  refine RL.nil ?_
  refine RE.sqN ?_
  refine RC.seq ?_
  refine RC.seq ?_
  refine RC.region rfl ?_
  -- stops: op call
  refine RL.e (Ef.call hS (phLive) rfl rfl Try.call29 [] [0, 1, 2, 3, 4] (by decide) rfl rfl) ?_
  rintro v24 w ⟨ps, ⟨rfl, p', l', rfl⟩, hS⟩
  refine RL.q (Qt.not rfl) ?_
  refine RL.q (Qt.mv rfl) ?_
  refine RLG.start 26 false rfl ?_
  refine RLG.q rfl rfl rfl (fun _ => Qt.mv rfl) ?_
  refine RLG.q rfl rfl rfl (fun _ => Qt.not rfl) ?_
  refine RLG.or rfl rfl ?_
  refine RL.nil ?_
  refine RE.sqN ?_
  -- stops: cond
  refine RC.condF rfl (rfl) ?_
  refine RC.skip ?_
  refine RE.sqN ?_
  refine RC.seq ?_
  refine RC.region rfl ?_
  refine RL.q (Qt.mv rfl) ?_
  -- stops: op call
  have hS := hS.pick [1, 4, 3, 5] (by decide) rfl
  obtain ⟨hok, hn1, hn2⟩ := hO_pok hS
  have hlen := hok.lenLe
  have hpl : (pIds l).length = l.length := List.length_map _
  refine RL.e (Ef.call hS (phFork _ _ l) rfl rfl Try.call40 [0] [1, 2, 3] (by decide) rfl rfl) ?_
  rintro v31 w ⟨ps, ⟨⟨bf, rfl⟩, rfl⟩, hS⟩
  refine RL.q (Qt.as rfl) ?_
  refine RL.nil ?_
  refine RE.sqN ?_
  refine RC.seq ?_
  refine RC.region rfl ?_
  refine RL.q (Qt.mv rfl) ?_
  refine RL.q (Qt.fld rfl) ?_
  refine RL.q (Qt.ld rfl (by first | exact hS.at 0 rfl | exact hS.at 1 rfl | exact hS.at 2 rfl | exact hS.at 3 rfl | exact hS.at 4 rfl) (by first  | rfl)) ?_
  refine RL.q (Qt.fld rfl) ?_
  refine RL.q (Qt.ld rfl (by first | exact hS.at 0 rfl | exact hS.at 1 rfl | exact hS.at 2 rfl | exact hS.at 3 rfl | exact hS.at 4 rfl) (by first  | rfl)) ?_
  refine RL.q (Qt.fld rfl) ?_
  refine RL.q (Qt.ld rfl (by first | exact hS.at 0 rfl | exact hS.at 1 rfl | exact hS.at 2 rfl | exact hS.at 3 rfl | exact hS.at 4 rfl) (by first  | rfl)) ?_
  -- stops: op call
  refine RL.e (Ef.call hS (phChange _ _ l x.it) rfl rfl Try.call36 [1] [0, 2, 3, 4] (by decide) rfl rfl) ?_
  rintro v39 w ⟨ps, ⟨rfl, rfl⟩, hS⟩
  refine RL.q (Qt.as rfl) ?_
  refine RL.nil ?_
  refine RE.sqN ?_
  refine RC.seq ?_
  refine RC.seq ?_
  refine RC.region rfl ?_
  refine RL.q (Qt.mv rfl) ?_
  refine RL.q (Qt.neq rfl rfl) ?_
  refine RL.nil ?_
  refine RE.sqN ?_
  -- stops: cond
  refine RC.cond rfl (fun h => ?_) (fun h => ?_)
  · skip
    have h : ¬ pErr l (n % 16 + 1).toNat x.id true = 0 := of_decide_eq_true h
    have h1 : pErr l (n % 16 + 1).toNat x.id true = 6 ∨ pErr l (n % 16 + 1).toNat x.id true = 2 := by
      revert h
      simp only [pErr, Bool.true_eq_false, false_and, if_false, true_and]
      split
      · intro _; exact .inr rfl
      · split
        · intro _; exact .inl rfl
        · intro h; exact absurd rfl h
    have hc : pChg l (n % 16 + 1).toNat x.it = l := if_neg h
    have hit : x.it.id = x.id := rfl
    rw [hc] at hS
    have hb : (decide (pErr l (n % 16 + 1).toNat x.it.id true = 6) || decide (pErr l (n % 16 + 1).toNat x.it.id true = 2)) = true := by
      rw [hit]; rcases h1 with h1 | h1 <;> simp [h1]
    refine RC.seq ?_
    refine RC.region rfl ?_
    refine RL.q (Qt.mv rfl) ?_
    refine RL.q (Qt.eql rfl rfl) ?_
    refine RL.q (Qt.mv rfl) ?_
    refine RLG.start 44 false rfl ?_
    refine RLG.q rfl rfl rfl (fun _ => Qt.mv rfl) ?_
    refine RLG.q rfl rfl rfl (fun hg => by (try simp only [decide_eq_false_iff_not] at hg); exact Qt.eql rfl rfl) ?_
    refine RLG.or rfl rfl ?_
    refine RL.q (Qt.mv rfl) ?_
    -- stops: guard
    refine RL.q (Qt.mv rfl) ?_ (Runs.guard rfl rfl rfl (hb))
    -- stops: op call
    refine RL.e (Ef.call hS (phList _ _ l) rfl rfl Try.call30 [0] [1, 2, 3, 4] (by decide) rfl rfl) ?_ (Runs.guard rfl rfl rfl (hb))
    rintro v50 w ⟨ps, rfl, hS⟩
    refine RL.q (Qt.mv rfl) ?_ (Runs.guard rfl rfl rfl (hb))
    -- stops: op call
    refine RL.e (Ef.call hS (phList _ _ l) rfl rfl Try.call30 [2] [0, 1, 3, 4, 5] (by decide) rfl rfl) ?_ (Runs.guard rfl rfl rfl (hb))
    rintro v52 w ⟨ps, rfl, hS⟩
    -- stops: op call
    refine RL.e (Ef.call hS (rSame _ _ (pIds l) (pIds l) (by omega)) rfl rfl Try.call32 [2, 0] [1, 3, 4, 5, 6] (by decide) rfl rfl) ?_ (Runs.guard rfl rfl rfl (hb))
    rintro v53 w ⟨ps, ⟨rfl, rfl⟩, hS⟩
    refine RL.q ((by first | exact Qt.pickT rfl (by assumption) rfl | exact Qt.pickF rfl (by assumption) rfl | exact Qt.pickT rfl rfl rfl | exact Qt.pickF rfl rfl rfl)) ?_
    refine RL.q (Qt.as rfl) ?_
    refine RL.nil ?_
    refine RE.sqN ?_
    refine RC.ret ?_
    refine RE.sqR ?_
    -- stops: end ret
    refine RE.retB rfl ⟨by simp [oneOf], rfl⟩ (hS.pick [3, 4] (by decide) rfl)
  · skip
    have h : pErr l (n % 16 + 1).toNat x.id true = 0 := Classical.not_not.1 (of_decide_eq_false h)
    obtain ⟨h0, hm⟩ := pErr_is1 h
    have e0 : pErr (pout l x.id) (n % 16 + 1).toNat x.id false = 0 := pErr_ok0 (by omega) (by rw [mem_pout_ids]; simp)
    have hc : pChg l (n % 16 + 1).toNat x.it = pput x.it (pout l x.id) := if_pos h
    have hd : pDel l (n % 16 + 1).toNat x.id = pout l x.id := if_pos h
    have hi : pIns (pout l x.id) (n % 16 + 1).toNat x.it = pput x.it (pout l x.id) := if_pos e0
    have hok2 : POk (n % 16 + 1).toNat (pput x.it (pout l x.id)) := (hok.out x.id).put h0 (by show x.id ∉ _; rw [mem_pout_ids]; simp)
    have hlen2 := hok2.lenLe
    have hpl2 : (pIds (pput x.it (pout l x.id))).length = (pput x.it (pout l x.id)).length := List.length_map _
    have hget : pGet (pput x.it (pout l x.id)) x.id = .tuple #[.int .u64 x.dl, .int .u64 x.sq, .bool true] := pGet_some hok2.nodup (x := x.it) ((pput_perm _ _).mem_iff.2 (by simp))
    rw [hc] at hS
    refine RC.skip ?_
    refine RE.sqN ?_
    refine RC.seq ?_
    -- stops: drawn
    refine RC.drawn 11 [0, 1, 2, 4, 5, 6, 7, 8, 9, 10, 3] (fun w' => w'.heap[b5]? = some (.cells x.cells.toArray 37 (0, 0))) (by kernel_rfl) (by kernel_rfl) (hS.drew.get 2 rfl) (fun hh => ?_)
    replace hS := hS.drew
    refine RH.q hh (Calm.sq Calm.body) rfl (by kernel_rfl) (Qt.mv rfl) ?_
    refine RH.q hh (Calm.sq Calm.body) rfl (by kernel_rfl) (Qt.fld rfl) ?_
    refine RH.q hh (Calm.sq Calm.body) rfl (by kernel_rfl) (Qt.ld rfl (fun _ h => h) (by first  | rfl)) ?_
    refine RH.q hh (Calm.sq Calm.body) rfl (by kernel_rfl) (Qt.mv rfl) ?_
    refine RH.q hh (Calm.sq Calm.body) rfl (by kernel_rfl) (Qt.fld rfl) ?_
    refine RH.q hh (Calm.sq Calm.body) rfl (by kernel_rfl) (Qt.ld rfl (fun _ h => h) (by first  | rfl)) ?_
    refine RH.q hh (Calm.sq Calm.body) rfl (by kernel_rfl) (Qt.fld rfl) ?_
    refine RH.q hh (Calm.sq Calm.body) rfl (by kernel_rfl) (Qt.ld rfl (fun _ h => h) (by first  | rfl)) ?_
    refine RH.q hh (Calm.sq Calm.body) rfl (by kernel_rfl) (Qt.fld rfl) ?_
    refine RH.q hh (Calm.sq Calm.body) rfl (by kernel_rfl) (Qt.ld rfl (fun _ h => h) (by first  | rfl)) ?_
    refine RH.e hh rfl (by kernel_rfl) (Ef.call hS (phDelete _ _ l x.id) rfl rfl Try.call31 [1] [0, 2, 3, 4] (by decide) rfl rfl) ?_
    rintro v58 w ⟨ps, ⟨rfl, rfl⟩, hS⟩
    refine ⟨(by first | exact hS.get 1 rfl | exact hS.get 2 rfl | exact hS.get 3 rfl), ?_⟩
    refine RH.done hh (by kernel_rfl) ?_
    rw [hd] at hS
    -- stops: op call
    refine RL.e (Ef.call hS (phInsert _ _ (pout l x.id) x.it) rfl rfl Try.call34 [0] [1, 2, 3, 4] (by decide) rfl rfl) ?_
    rintro v66 w ⟨ps, ⟨rfl, rfl⟩, hS⟩
    rw [hi] at hS
    rw [show pErr (pout l x.id) (n % 16 + 1).toNat x.it.id false = 0 from e0]
    refine RL.q (Qt.as rfl) ?_
    refine RL.q (Qt.as rfl) ?_
    refine RL.nil ?_
    refine RE.sqN ?_
    refine RC.seq ?_
    refine RC.region rfl ?_
    refine RL.q (Qt.mv rfl) ?_
    refine RL.q (Qt.fld rfl) ?_
    refine RL.q (Qt.ld rfl (by first | exact hS.at 0 rfl | exact hS.at 1 rfl | exact hS.at 2 rfl | exact hS.at 3 rfl | exact hS.at 4 rfl) (by first  | rfl)) ?_
    -- stops: op call
    refine RL.e (Ef.call hS (phGet _ _ _ x.id) rfl rfl Try.call38 [1] [0, 2, 3, 4] (by decide) rfl rfl) ?_
    rintro v71 w ⟨ps, ⟨rfl, rfl⟩, hS⟩
    rw [hget]
    refine RL.q (Qt.mv rfl) ?_
    refine RL.q (Qt.ext rfl rfl) ?_
    refine RL.q (Qt.ext rfl rfl) ?_
    refine RL.q (Qt.ext rfl rfl) ?_
    refine RL.q (Qt.as rfl) ?_
    refine RL.q (Qt.as rfl) ?_
    refine RL.q (Qt.as rfl) ?_
    refine RL.nil ?_
    refine RE.sqN ?_
    refine RC.seq ?_
    refine RC.region rfl ?_
    refine RL.q (Qt.mv rfl) ?_
    refine RL.q (Qt.eql rfl rfl) ?_
    refine RL.q (Qt.mv rfl) ?_
    refine RLG.start 77 true rfl ?_
    refine RLG.q rfl rfl rfl (fun _ => Qt.mv rfl) ?_
    refine RLG.q rfl rfl rfl (fun hg => by (try simp only [decide_eq_true_eq] at hg); exact Qt.eql rfl rfl) ?_
    refine RLG.and rfl rfl ?_
    refine RL.q (Qt.mv rfl) ?_
    refine RLG.start 81 true rfl ?_
    refine RLG.q rfl rfl rfl (fun _ => Qt.mv rfl) ?_
    refine RLG.and rfl rfl ?_
    refine RL.q (Qt.mv rfl) ?_
    refine RLG.start 84 true rfl ?_
    refine RLG.q rfl rfl rfl (fun _ => Qt.mv rfl) ?_
    refine RLG.q rfl rfl rfl (fun _ => Qt.fld rfl) ?_
    refine RLG.q rfl rfl rfl (fun hg => by (try simp only [decide_eq_true_eq, Bool.and_eq_true] at hg); exact Qt.ld rfl (by first | exact hS.at 0 rfl | exact hS.at 1 rfl | exact hS.at 2 rfl | exact hS.at 3 rfl | exact hS.at 4 rfl) (by first  | rfl)) ?_
    refine RLG.q rfl rfl rfl (fun hg => by (try simp only [decide_eq_true_eq, Bool.and_eq_true] at hg); exact Qt.eql rfl rfl) ?_
    refine RLG.and rfl rfl ?_
    refine RL.q (Qt.mv rfl) ?_
    refine RLG.start 90 true rfl ?_
    refine RLG.q rfl rfl rfl (fun _ => Qt.mv rfl) ?_
    refine RLG.q rfl rfl rfl (fun _ => Qt.fld rfl) ?_
    refine RLG.q rfl rfl rfl (fun hg => by (try simp only [decide_eq_true_eq, Bool.and_eq_true] at hg); exact Qt.ld rfl (by first | exact hS.at 0 rfl | exact hS.at 1 rfl | exact hS.at 2 rfl | exact hS.at 3 rfl | exact hS.at 4 rfl) (by first  | rfl)) ?_
    refine RLG.q rfl rfl rfl (fun hg => by (try simp only [decide_eq_true_eq, Bool.and_eq_true] at hg); exact Qt.eql rfl rfl) ?_
    refine RLG.and rfl rfl ?_
    refine RL.q (Qt.mv rfl) ?_
    -- stops: guard
    refine RL.q (Qt.mv rfl) ?_ (Runs.guard rfl rfl rfl (by simp [h]))
    -- stops: op call
    refine RL.e (Ef.call hS (phList _ _ _) rfl rfl Try.call30 [0] [1, 2, 3, 4] (by decide) rfl rfl) ?_ (Runs.guard rfl rfl rfl (by simp [h]))
    rintro v98 w ⟨ps, rfl, hS⟩
    refine RL.q (Qt.mv rfl) ?_ (Runs.guard rfl rfl rfl (by simp [h]))
    -- stops: op call
    refine RL.e (Ef.call hS (phList _ _ _) rfl rfl Try.call30 [2] [0, 1, 3, 4, 5] (by decide) rfl rfl) ?_ (Runs.guard rfl rfl rfl (by simp [h]))
    rintro v100 w ⟨ps, rfl, hS⟩
    -- stops: op call
    refine RL.e (Ef.call hS (rSame _ _ (pIds (pput x.it (pout l x.id))) (pIds (pput x.it (pout l x.id))) (by omega)) rfl rfl Try.call32 [2, 0] [1, 3, 4, 5, 6] (by decide) rfl rfl) ?_ (Runs.guard rfl rfl rfl (by simp [h]))
    rintro v101 w ⟨ps, ⟨rfl, rfl⟩, hS⟩
    refine RL.q ((by first | exact Qt.pickT rfl (by assumption) rfl | exact Qt.pickF rfl (by assumption) rfl | exact Qt.pickT rfl rfl rfl | exact Qt.pickF rfl rfl rfl | exact Qt.pickT rfl (by simp [h]) rfl)) ?_
    refine RL.q (Qt.as rfl) ?_
    refine RL.nil ?_
    refine RE.sqN ?_
    refine RC.ret ?_
    -- stops: end ret
    refine RE.retB rfl ⟨by simp [oneOf], rfl⟩ (hS.pick [3, 4] (by decide) rfl)

set_option maxHeartbeats 2000000 in
theorem phLawForks (v u : Value) (ds es : List PDeed) (F0 : Frag) (hR : PDeedsAt v ds F0) (hR2 : PDeedsAt u es F0) (hd : ∀ x ∈ ds, x.ok) : Ct Try.prog 8 #[v, u] [pin F0] (fun v' ps => v' = .bool true ∧ ps = [pin F0]) := by
  obtain ⟨pa, cap, rfl, hR2⟩ := hR2
  refine Ct.enter Try.func8 rfl (Nat.le_of_ble_eq_true rfl) ?_
  intro oo w R hS
  change RC _ _ _ _ _ _ [(0, _), (1, _)] _
  refine RC.seq ?_
  refine RC.region rfl ?_
  refine RL.q (Qt.as rfl) ?_
  refine RL.nil ?_
  refine RE.sqN ?_
  refine RC.seq ?_
  refine RC.region rfl ?_
  refine RL.q (Qt.mv rfl) ?_
  -- stops: op call
  refine RL.e (Ef.call hS (phPlay 12 (by decide) v ds F0 hR hd) rfl rfl Try.call28 [0] [1] (by decide) rfl rfl) ?_
  rintro v13 w ⟨ps, ⟨b, r, l, rfl, hnn, rfl⟩, hS⟩
  refine RL.q (Qt.mv rfl) ?_
  refine RL.q (Qt.ext rfl rfl) ?_
  refine RL.q (Qt.ext rfl rfl) ?_
  refine RL.q (Qt.ext rfl rfl) ?_
  refine RL.q (Qt.as rfl) ?_
  refine RL.q (Qt.as rfl) ?_
  refine RL.q (Qt.as rfl) ?_
  refine RL.nil ?_
  refine RE.sqN ?_
  refine RC.seq ?_
  refine RC.seq ?_
  refine RC.region rfl ?_
  -- stops: op call
  refine RL.e (Ef.call hS (phLive) rfl rfl Try.call29 [] [0, 1, 2, 3] (by decide) rfl rfl) ?_
  rintro v17 w ⟨ps, ⟨rfl, p', l', rfl⟩, hS⟩
  refine RL.q (Qt.not rfl) ?_
  refine RL.q (Qt.mv rfl) ?_
  refine RLG.start 19 false rfl ?_
  refine RLG.q rfl rfl rfl (fun _ => Qt.mv rfl) ?_
  refine RLG.q rfl rfl rfl (fun _ => Qt.not rfl) ?_
  refine RLG.or rfl rfl ?_
  refine RL.nil ?_
  refine RE.sqN ?_
  -- stops: cond
  refine RC.condF rfl (rfl) ?_
  refine RC.skip ?_
  refine RE.sqN ?_
  refine RC.seq ?_
  refine RC.region rfl ?_
  refine RL.q (Qt.mv rfl) ?_
  -- stops: op call
  refine RL.e (Ef.call hS (phFork _ _ l) rfl rfl Try.call40 [1] [0, 2, 3, 4] (by decide) rfl rfl) ?_
  rintro v24 w ⟨ps, ⟨⟨bf, rfl⟩, rfl⟩, hS⟩
  refine RL.q (Qt.mv rfl) ?_
  -- stops: op call
  refine RL.e (Ef.call hS (rhFork r _ l) rfl rfl Try.call41 [3] [0, 1, 2, 4, 5] (by decide) rfl rfl) ?_
  rintro v26 w ⟨ps, ⟨⟨bg, rfl⟩, rfl⟩, hS⟩
  refine RL.q (Qt.as rfl) ?_
  refine RL.q (Qt.as rfl) ?_
  refine RL.nil ?_
  refine RE.sqN ?_
  refine RC.seq ?_
  refine RC.seq ?_
  refine RC.region rfl ?_
  refine RL.q (Qt.as rfl) ?_
  refine RL.nil ?_
  refine RE.sqN ?_
  refine RC.block ?_
  -- stops: loop
  refine RC.loop (γ := Nat × List PItem) (fun h E w' => E = [(10, .int .i64 h.1), (1, .slice pa es.length cap), (5, .pointer (some ⟨b, 0, none⟩)), (6, r), (8, .pointer (some ⟨bf, 0, none⟩)), (9, .pointer (some ⟨bg, 0, none⟩))] ∧ Sat oo w' [hO (.pointer (some ⟨b, 0, none⟩)) (12 % 16 + 1 : Int).toNat l, rhO r (12 % 16 + 1 : Int).toNat l, hO (.pointer (some ⟨bf, 0, none⟩)) (12 % 16 + 1 : Int).toNat h.2, rhO (.pointer (some ⟨bg, 0, none⟩)) (12 % 16 + 1 : Int).toNat h.2, pin F0, R] ∧ h.1 ≤ es.length ∧ h.1 ≤ 30) (fun h => es.length - h.1) (0, l) _ (by (repeat (first | exact Sub.nil | refine Sub.cons rfl ?_))) ⟨rfl, hS.pick [3, 0, 2, 1, 5, 6] (by decide) rfl, by simp, by simp⟩ ?_
  clear hS
  rintro ⟨k, m⟩ E w ⟨rfl, hS, hk, hk2⟩
  dsimp only at hk hk2
  refine RC.seq ?_
  refine RC.seq ?_
  refine RC.region rfl ?_
  refine RL.q (Qt.mv rfl) ?_
  refine RL.q (Qt.mv rfl) ?_
  refine RL.q (Qt.lenS rfl) ?_
  refine RL.q (Qt.lss rfl rfl) ?_
  refine RL.q (Qt.mv rfl) ?_
  refine RLG.start 31 true rfl ?_
  refine RLG.q rfl rfl rfl (fun _ => Qt.mv rfl) ?_
  refine RLG.q rfl rfl rfl (fun hg => by (try simp only [decide_eq_true_eq] at hg); exact Qt.lss rfl rfl) ?_
  refine RLG.and rfl rfl ?_
  refine RL.nil ?_
  refine RE.sqN ?_
  -- stops: cond
  refine RC.cond rfl (fun h => ?_) (fun h => ?_)
  · skip
    have h : k < es.length ∧ k < 30 := by
      simp only [Bool.and_eq_true, decide_eq_true_eq] at h
      omega
    obtain ⟨b0, off, c, T, fz, rfl, hmem, hle, hrow⟩ := hR2 (by omega)
    have hrow := hrow k h.1
    refine RC.skip ?_
    refine RE.sqN ?_
    refine RC.seq ?_
    refine RC.block ?_
    refine RC.seq ?_
    refine RC.region rfl ?_
    refine RL.q (Qt.mv rfl) ?_
    refine RL.q (Qt.mv rfl) ?_
    refine RL.q (Qt.mv rfl) ?_
    refine RL.q (Qt.mv rfl) ?_
    refine RL.q (Qt.ixS rfl rfl (by first | assumption | omega | (dsimp only; omega)) (by first | assumption | omega | (dsimp only; omega))) ?_
    refine RL.q (Qt.ldA rfl (by first | exact hS.atPin 4 rfl hmem | exact hS.atPin 3 rfl hmem | exact hS.atPin 2 rfl hmem) (by first | exact hrow | rfl) (by first | exact Nat.le_of_ble_eq_true rfl | omega | (simp only [Array.size_map]; omega))) ?_
    -- stops: op call
    refine RL.e (Ef.call hS (phDo _ _ _ m es[k]) rfl rfl Try.call42 [2, 3] [0, 1, 4, 5] (by decide) rfl rfl) ?_
    rintro v43 w ⟨ps, ⟨rfl, rfl⟩, hS⟩
    refine RL.q (Qt.not rfl) ?_
    refine RL.nil ?_
    refine RE.sqN ?_
    -- stops: cond
    refine RC.condF rfl (rfl) ?_
    refine RC.skip ?_
    refine RE.bkN ?_
    refine RE.sqN ?_
    refine RC.region rfl ?_
    refine RL.q (Qt.mv rfl) ?_
    refine RL.q ((by first | exact Qt.addI rfl rfl (by dsimp only [inK]; omega) | exact Qt.add rfl rfl)) ?_
    refine RL.q (Qt.as rfl) ?_
    refine RL.nil ?_
    -- stops: next
    apply RE.lpN ((k + 1, pDo m (12 % 16 + 1 : Int).toNat es[k]))
    case hI => exact ⟨rfl, hS.pick [2, 3, 0, 1, 4, 5] (by decide) rfl, h.1, h.2⟩
    case hs => (repeat (first | exact Sub.nil | refine Sub.cons rfl ?_))
    case hm =>
      show es.length - (k + 1) < es.length - k
      omega
  · skip
    refine RC.exit ?_
    refine RE.sqX ?_
    refine RE.lpX ?_
    refine RE.bkX ?_
    refine RE.sqN ?_
    refine RC.seq ?_
    refine RC.region rfl ?_
    refine RL.q (Qt.mv rfl) ?_
    refine RL.q (Qt.mv rfl) ?_
    -- stops: op call
    refine RL.e (Ef.call hS (phSame _ r _ l 1) rfl rfl Try.call37 [0, 1] [2, 3, 4, 5] (by decide) rfl rfl) ?_
    rintro v47 w ⟨ps, ⟨rfl, rfl⟩, hS⟩
    refine RL.q (Qt.mv rfl) ?_
    -- stops: guard
    refine RL.q (Qt.mv rfl) ?_ (Runs.guard rfl rfl rfl (rfl))
    refine RL.q (Qt.mv rfl) ?_ (Runs.guard rfl rfl rfl (rfl))
    -- stops: op call
    refine RL.e (Ef.call hS (phSame _ _ _ m 1) rfl rfl Try.call37 [2, 3] [0, 1, 4, 5] (by decide) rfl rfl) ?_ (Runs.guard rfl rfl rfl (rfl))
    rintro v51 w ⟨ps, ⟨rfl, rfl⟩, hS⟩
    refine RL.q ((by first | exact Qt.pickT rfl (by assumption) rfl | exact Qt.pickF rfl (by assumption) rfl | exact Qt.pickT rfl rfl rfl | exact Qt.pickF rfl rfl rfl)) ?_
    refine RL.q (Qt.as rfl) ?_
    refine RL.nil ?_
    refine RE.sqN ?_
    refine RC.ret ?_
    -- stops: end ret
    exact RE.retB rfl ⟨rfl, rfl⟩ (hS.pick [4, 5] (by decide) rfl)

theorem pput_out {x : PItem} : ∀ {l : List PItem}, x.id ∉ pIds l → pout (pput x l) x.id = l
  | [], _ => by simp [pput, pout]
  | y :: t, h => by
    simp only [pIds, List.map_cons, List.mem_cons, not_or] at h
    have hy : decide (y.id ≠ x.id) = true := decide_eq_true fun e => h.1 e.symm
    unfold pput; split
    · rw [pout, List.filter_cons, if_neg (by simp)]
      exact pout_not (by simp only [pIds, List.map_cons, List.mem_cons, not_or]; exact h)
    · rw [pout, List.filter_cons, if_pos hy]
      exact congrArg (y :: ·) (pput_out h.2)

set_option maxHeartbeats 2000000 in
theorem phLawPuts (n : Int) (hn : 0 ≤ n ∧ n ≤ 255) (v : Value) (ds : List PDeed) (x : PDeed) (F0 : Frag) (hR : PDeedsAt v ds F0) (hd : ∀ x ∈ ds, x.ok) : Ct Try.prog 4 #[.int .u8 n, v, x.val] [pin F0] (fun v' ps => v' = .bool true ∧ ps = [pin F0]) := by
  refine Ct.enter Try.func4 rfl (Nat.le_of_ble_eq_true rfl) ?_
  intro oo w R hS
  change RC _ _ _ _ _ _ [(0, _), (1, _), (2, _)] _
  refine RC.seq ?_
  refine RC.region rfl ?_
  refine RL.e (Ef.box hS rfl) ?_
  rintro _ w ⟨b5, rfl, hS⟩
  try simp (disch := omega) only [List.set_cons_zero, List.set_cons_succ, cells_int, cells_bool, cells_ptr, cells_slice, cells_func, cells_agg, cells_map, cells_int', cells_bool', cells_ptr', cells_slice', cells_agg', cells_map', cells_func', Nat.zero_add, wr, List.setIfInBounds_toArray] at hS
  refine RL.q (Qt.as rfl) ?_
  refine RL.nil ?_
  refine RE.sqN ?_
  refine RC.seq ?_
  refine RC.region rfl ?_
  refine RL.q (Qt.mv rfl) ?_
  refine RL.q (Qt.mv rfl) ?_
  -- stops: op call
  refine RL.e (Ef.call hS (phPlay n hn v ds F0 hR hd) rfl rfl Try.call28 [1] [0, 2] (by decide) rfl rfl) ?_
  rintro v17 w ⟨ps, ⟨b, r, l, rfl, hnn, rfl⟩, hS⟩
  refine RL.q (Qt.mv rfl) ?_
  refine RL.q (Qt.ext rfl rfl) ?_
  refine RL.q (Qt.ext rfl rfl) ?_
  refine RL.q (Qt.ext rfl rfl) ?_
  refine RL.q (Qt.as rfl) ?_
  refine RL.q (Qt.as rfl) ?_
  refine RL.q (Qt.as rfl) ?_
  refine RL.nil ?_
  refine RE.sqN ?_
  refine RC.seq ?_
  refine RC.seq ?_
  refine RC.region rfl ?_
  -- stops: op call
  refine RL.e (Ef.call hS (phLive) rfl rfl Try.call29 [] [0, 1, 2, 3, 4] (by decide) rfl rfl) ?_
  rintro v21 w ⟨ps, ⟨rfl, p', l', rfl⟩, hS⟩
  refine RL.q (Qt.not rfl) ?_
  refine RL.q (Qt.mv rfl) ?_
  refine RLG.start 23 false rfl ?_
  refine RLG.q rfl rfl rfl (fun _ => Qt.mv rfl) ?_
  refine RLG.q rfl rfl rfl (fun _ => Qt.not rfl) ?_
  refine RLG.or rfl rfl ?_
  refine RL.nil ?_
  refine RE.sqN ?_
  -- stops: cond
  refine RC.condF rfl (rfl) ?_
  refine RC.skip ?_
  refine RE.sqN ?_
  refine RC.seq ?_
  refine RC.region rfl ?_
  refine RL.q (Qt.mv rfl) ?_
  -- stops: op call
  have hS := hS.pick [1, 4, 3, 5] (by decide) rfl
  obtain ⟨hok, hn1, hn2⟩ := hO_pok hS
  have hlen := hok.lenLe
  have hpl : (pIds l).length = l.length := List.length_map _
  refine RL.e (Ef.call hS (phList _ _ l) rfl rfl Try.call30 [0] [1, 2, 3] (by decide) rfl rfl) ?_
  rintro v28 w ⟨ps, rfl, hS⟩
  refine RL.q (Qt.as rfl) ?_
  refine RL.nil ?_
  refine RE.sqN ?_
  refine RC.seq ?_
  refine RC.seq ?_
  refine RC.region rfl ?_
  refine RL.q (Qt.mv rfl) ?_
  refine RL.q (Qt.fld rfl) ?_
  refine RL.q (Qt.ld rfl (by first | exact hS.at 0 rfl | exact hS.at 1 rfl | exact hS.at 2 rfl | exact hS.at 3 rfl | exact hS.at 4 rfl) (by first  | rfl)) ?_
  refine RL.q (Qt.fld rfl) ?_
  refine RL.q (Qt.ld rfl (by first | exact hS.at 0 rfl | exact hS.at 1 rfl | exact hS.at 2 rfl | exact hS.at 3 rfl | exact hS.at 4 rfl) (by first  | rfl)) ?_
  refine RL.q (Qt.fld rfl) ?_
  refine RL.q (Qt.ld rfl (by first | exact hS.at 0 rfl | exact hS.at 1 rfl | exact hS.at 2 rfl | exact hS.at 3 rfl | exact hS.at 4 rfl) (by first  | rfl)) ?_
  -- stops: op call
  refine RL.e (Ef.call hS (phInsert _ _ l x.it) rfl rfl Try.call34 [1] [0, 2, 3, 4] (by decide) rfl rfl) ?_
  rintro v36 w ⟨ps, ⟨rfl, rfl⟩, hS⟩
  refine RL.q (Qt.neq rfl rfl) ?_
  refine RL.nil ?_
  refine RE.sqN ?_
  -- stops: cond
  refine RC.cond rfl (fun h => ?_) (fun h => ?_)
  · skip
    have h : ¬ pErr l (n % 16 + 1).toNat x.id false = 0 := of_decide_eq_true h
    have hi : pIns l (n % 16 + 1).toNat x.it = l := if_neg h
    rw [hi] at hS
    refine RC.seq ?_
    refine RC.region rfl ?_
    refine RL.q (Qt.mv rfl) ?_
    refine RL.q (Qt.mv rfl) ?_
    -- stops: op call
    refine RL.e (Ef.call hS (phList _ _ l) rfl rfl Try.call30 [0] [1, 2, 3, 4] (by decide) rfl rfl) ?_
    rintro v40 w ⟨ps, rfl, hS⟩
    -- stops: op call
    refine RL.e (Ef.call hS (rSame _ _ (pIds l) (pIds l) (by omega)) rfl rfl Try.call32 [2, 0] [1, 3, 4, 5] (by decide) rfl rfl) ?_
    rintro v41 w ⟨ps, ⟨rfl, rfl⟩, hS⟩
    refine RL.q (Qt.as rfl) ?_
    refine RL.nil ?_
    refine RE.sqN ?_
    refine RC.ret ?_
    refine RE.sqR ?_
    -- stops: end ret
    refine RE.retB rfl ⟨by simp [oneOf], rfl⟩ (hS.pick [2, 3] (by decide) rfl)
  · skip
    have h : pErr l (n % 16 + 1).toNat x.id false = 0 := Classical.not_not.1 (of_decide_eq_false h)
    obtain ⟨h0, hm⟩ := pErr_is0 h
    have hi : pIns l (n % 16 + 1).toNat x.it = pput x.it l := if_pos h
    have hok2 : POk (n % 16 + 1).toNat (pput x.it l) := hok.put h0 hm
    have hlen2 := hok2.lenLe
    have hpp := pput_perm x.it l
    have hm2 : x.id ∈ pIds (pput x.it l) := List.mem_map.2 ⟨x.it, hpp.mem_iff.2 (by simp), rfl⟩
    have hppl := hpp.length_eq
    simp only [List.length_cons] at hppl
    have hpl2 : (pIds (pput x.it l)).length = l.length + 1 := by rw [pIds, List.length_map]; exact hppl
    have ed : pErr (pput x.it l) (n % 16 + 1).toNat x.id true = 0 := pErr_ok1 (by omega) hm2
    have hd : pDel (pput x.it l) (n % 16 + 1).toNat x.id = l := by rw [pDel, if_pos ed]; exact pput_out hm
    have e3 : pErr (pput ⟨x.id, 0, 0⟩ l) (n % 16 + 1).toNat x.id true = 0 := pErr_ok1 (by omega) (List.mem_map.2 ⟨⟨x.id, 0, 0⟩, (pput_perm _ _).mem_iff.2 (by simp), rfl⟩)
    rw [hi] at hS
    obtain ⟨sp1, cp1, rfl⟩ := hS.ownForm 1 rfl
    refine RC.skip ?_
    refine RE.sqN ?_
    refine RC.seq ?_
    refine RC.region rfl ?_
    refine RL.q (Qt.mv rfl) ?_
    -- stops: op call
    refine RL.e (Ef.call hS (phList _ _ _) rfl rfl Try.call30 [0] [1, 2, 3, 4] (by decide) rfl rfl) ?_
    rintro v43 w ⟨ps, rfl, hS⟩
    refine RL.q (Qt.as rfl) ?_
    refine RL.nil ?_
    refine RE.sqN ?_
    refine RC.seq ?_
    refine RC.region rfl ?_
    refine RL.q (Qt.mv rfl) ?_
    -- stops: op call
    refine RL.e (Ef.call hS (phMin _ _ _) rfl rfl Try.call35 [1] [0, 2, 3, 4, 5] (by decide) rfl rfl) ?_
    rintro v46 w ⟨ps, ⟨rfl, rfl⟩, hS⟩
    obtain ⟨y, t, hyt⟩ : ∃ y t, pput x.it l = y :: t := by
      cases hpx : pput x.it l with
      | nil => rw [hpx] at hppl; simp at hppl
      | cons y t => exact ⟨y, t, rfl⟩
    have hmi : pMinId (pput x.it l) = y.id := by rw [hyt]; rfl
    have hmo : pMinOk (pput x.it l) = true := by rw [hyt]; rfl
    have h0g : (pIds (pput x.it l))[0]'(by omega) = y.id := by simp only [hyt]; rfl
    rw [hmi, hmo]
    obtain ⟨bs, cap', c, hv, hc1, hc2, hc3, hc4, hS⟩ := hS.ownPos 1 rfl (by omega)
    subst hv
    have hc0 : c.toList[0 + (0 : Int).toNat * 1]? = some (.int .i64 y.id) := by
      have := int_cell hc4 rfl (i := 0) (by omega)
      rw [h0g] at this
      exact this
    have hll : ((pIds (pput x.it l)).length : Int) = (pIds l).length + 1 := by omega
    refine RL.q (Qt.mv rfl) ?_
    refine RL.q (Qt.ext rfl rfl) ?_
    refine RL.q (Qt.ext rfl rfl) ?_
    refine RL.q (Qt.as rfl) ?_
    refine RL.q (Qt.as rfl) ?_
    refine RL.nil ?_
    refine RE.sqN ?_
    refine RC.seq ?_
    refine RC.seq ?_
    refine RC.region rfl ?_
    refine RL.q (Qt.mv rfl) ?_
    refine RL.q (Qt.not rfl) ?_
    refine RL.q (Qt.mv rfl) ?_
    refine RLG.start 51 false rfl ?_
    refine RLG.q rfl rfl rfl (fun _ => Qt.mv rfl) ?_
    refine RLG.q rfl rfl rfl (fun _ => Qt.lenS rfl) ?_
    refine RLG.q rfl rfl rfl (fun _ => Qt.mv rfl) ?_
    refine RLG.q rfl rfl rfl (fun _ => Qt.lenS rfl) ?_
    refine RLG.q rfl rfl rfl (fun hg => by (try simp only [decide_eq_true_eq, decide_eq_false_iff_not, Bool.or_eq_false_iff, Bool.and_eq_true, Bool.not_eq_true, Bool.not_eq_false, Option.isSome_some, Option.isNone_some] at hg); exact (by first | exact Qt.addI rfl rfl (by dsimp only [inK]; omega) | exact Qt.add rfl rfl)) ?_
    refine RLG.q rfl rfl rfl (fun hg => by (try simp only [decide_eq_true_eq, decide_eq_false_iff_not, Bool.or_eq_false_iff, Bool.and_eq_true, Bool.not_eq_true, Bool.not_eq_false, Option.isSome_some, Option.isNone_some] at hg); exact Qt.neq rfl rfl) ?_
    refine RLG.or rfl rfl ?_
    refine RL.q (Qt.mv rfl) ?_
    refine RLG.start 59 false rfl ?_
    refine RLG.q rfl rfl rfl (fun _ => Qt.mv rfl) ?_
    refine RLG.q rfl rfl rfl (fun _ => Qt.mv rfl) ?_
    refine RLG.q rfl rfl rfl (fun hg => by (try simp only [decide_eq_false_iff_not, Bool.or_eq_false_iff] at hg); exact Qt.ixS rfl rfl (by first | assumption | omega | (dsimp only; omega)) (by first | assumption | omega | (dsimp only; omega))) ?_
    refine RLG.q rfl rfl rfl (fun hg => by (try simp only [decide_eq_false_iff_not, Bool.or_eq_false_iff] at hg); exact Qt.ld rfl (by first | exact hS.at 0 rfl | exact hS.at 1 rfl | exact hS.at 2 rfl | exact hS.at 3 rfl | exact hS.at 4 rfl | exact hS.at 5 rfl) (by first | exact hc0 | rfl)) ?_
    refine RLG.q rfl rfl rfl (fun hg => by (try simp only [decide_eq_false_iff_not, Bool.or_eq_false_iff] at hg); exact Qt.neq rfl rfl) ?_
    refine RLG.or rfl rfl ?_
    refine RL.q (Qt.mv rfl) ?_
    -- stops: guard
    refine RL.q (Qt.mv rfl) ?_ (Runs.guard rfl rfl rfl (by simp [hll]))
    refine RL.q (Qt.fld rfl) ?_ (Runs.guard rfl rfl rfl (by simp [hll]))
    refine RL.q (Qt.ld rfl (by first | exact hS.at 0 rfl | exact hS.at 1 rfl | exact hS.at 2 rfl | exact hS.at 3 rfl | exact hS.at 4 rfl | exact hS.at 5 rfl) (by first | exact hc0 | rfl)) ?_ (Runs.guard rfl rfl rfl (by simp [hll]))
    -- stops: op call
    refine RL.e (Ef.call hS (phDelete _ _ _ x.id) rfl rfl Try.call31 [0] [1, 2, 3, 4, 5] (by decide) rfl rfl) ?_ (Runs.guard rfl rfl rfl (by simp [hll]))
    rintro v70 w ⟨ps, ⟨rfl, rfl⟩, hS⟩
    rw [hd] at hS
    rw [ed]
    refine RL.q (Qt.neq rfl rfl) ?_ (Runs.guard rfl rfl rfl (by simp [hll]))
    refine RL.q ((by first | exact Qt.pickT rfl (by assumption) rfl | exact Qt.pickF rfl (by assumption) rfl | exact Qt.pickT rfl rfl rfl | exact Qt.pickF rfl rfl rfl | exact Qt.pickF rfl (by simp [hll]) rfl)) ?_
    refine RL.q (Qt.mv rfl) ?_
    -- stops: guard
    refine RL.q (Qt.mv rfl) ?_ (Runs.guard rfl rfl rfl (rfl))
    refine RL.q (Qt.mv rfl) ?_ (Runs.guard rfl rfl rfl (rfl))
    -- stops: op call
    refine RL.e (Ef.call hS (phList _ _ l) rfl rfl Try.call30 [0] [1, 2, 3, 4, 5] (by decide) rfl rfl) ?_ (Runs.guard rfl rfl rfl (rfl))
    rintro v76 w ⟨ps, rfl, hS⟩
    -- stops: op call
    refine RL.e (Ef.call hS (rSame _ _ (pIds l) (pIds l) (by omega)) rfl rfl Try.call32 [3, 0] [1, 2, 4, 5, 6] (by decide) rfl rfl) ?_ (Runs.guard rfl rfl rfl (rfl))
    rintro v77 w ⟨ps, ⟨rfl, rfl⟩, hS⟩
    refine RL.q (Qt.not rfl) ?_ (Runs.guard rfl rfl rfl (rfl))
    refine RL.q ((by first | exact Qt.pickT rfl (by assumption) rfl | exact Qt.pickF rfl (by assumption) rfl | exact Qt.pickT rfl rfl rfl | exact Qt.pickF rfl rfl rfl | exact Qt.pickF rfl (by simp [hll]) rfl)) ?_
    refine RL.nil ?_
    refine RE.sqN ?_
    -- stops: cond
    refine RC.condF rfl (by simp) ?_
    refine RC.skip ?_
    refine RE.sqN ?_
    refine RC.seq ?_
    refine RC.region rfl ?_
    refine RL.q (Qt.mv rfl) ?_
    refine RL.q (Qt.fld rfl) ?_
    refine RL.q (Qt.ld rfl (by first | exact hS.at 0 rfl | exact hS.at 1 rfl | exact hS.at 2 rfl | exact hS.at 3 rfl | exact hS.at 4 rfl) (by first | exact hc0 | rfl)) ?_
    -- stops: op call
    refine RL.e (Ef.call hS (phInsert _ _ l ⟨x.id, 0, 0⟩) rfl rfl Try.call34 [0] [1, 2, 3, 4] (by decide) rfl rfl) ?_
    rintro v83 w ⟨ps, ⟨rfl, rfl⟩, hS⟩
    rw [show pIns l (n % 16 + 1).toNat ⟨x.id, 0, 0⟩ = pput ⟨x.id, 0, 0⟩ l from if_pos h] at hS
    rw [show pErr l (n % 16 + 1).toNat (PItem.mk x.id 0 0).id false = 0 from h]
    refine RL.q (Qt.eql rfl rfl) ?_
    refine RL.q (Qt.mv rfl) ?_
    -- stops: guard
    refine RL.q (Qt.mv rfl) ?_ (Runs.guard rfl rfl rfl (rfl))
    refine RL.q (Qt.fld rfl) ?_ (Runs.guard rfl rfl rfl (rfl))
    refine RL.q (Qt.ld rfl (by first | exact hS.at 0 rfl | exact hS.at 1 rfl | exact hS.at 2 rfl | exact hS.at 3 rfl | exact hS.at 4 rfl) (by first | exact hc0 | rfl)) ?_ (Runs.guard rfl rfl rfl (rfl))
    -- stops: op call
    refine RL.e (Ef.call hS (phChange _ _ _ ⟨x.id, 18446744073709551615, 18446744073709551615⟩) rfl rfl Try.call36 [0] [1, 2, 3, 4] (by decide) rfl rfl) ?_ (Runs.guard rfl rfl rfl (rfl))
    rintro v89 w ⟨ps, ⟨rfl, rfl⟩, hS⟩
    refine RL.q (Qt.eql rfl rfl) ?_ (Runs.guard rfl rfl rfl (rfl))
    refine RL.q ((by first | exact Qt.pickT rfl (by assumption) rfl | exact Qt.pickF rfl (by assumption) rfl | exact Qt.pickT rfl rfl rfl | exact Qt.pickF rfl rfl rfl | exact Qt.pickF rfl (by simp [hll]) rfl)) ?_
    refine RL.q (Qt.as rfl) ?_
    refine RL.nil ?_
    refine RE.sqN ?_
    refine RC.ret ?_
    -- stops: end ret
    refine RE.retB rfl ⟨by simp [oneOf, e3], rfl⟩ (hS.pick [3, 4] (by decide) rfl)
end Go.Proofs

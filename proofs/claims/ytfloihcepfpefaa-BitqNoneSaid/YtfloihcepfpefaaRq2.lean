/- The reference queue of layer 2: List, Fork, and the comparison of two lists. -/
import Derived.Test.YtfloihcepfpefaaRq
namespace Go.Proofs
open Go Go.Gx
variable {oo : World}

abbrev ownI (v : Value) (l : List Int) : HP := own v 3 1 l.length (ints l)

set_option maxHeartbeats 1000000 in
theorem rqList (p : Value) (n : Nat) (l : List RItem) (lv : Int) : Ct Try.prog 36 #[p, .int .u8 lv] [refQ p n l] (fun v ps => ps = [ownI v (rIds l lv), refQ p n l]) := by
  refine Ct.enter Try.func36 rfl (Nat.le_of_ble_eq_true rfl) ?_
  intro oo w R hS
  change RC _ _ _ _ _ _ [(0, _), (1, _)] _
  obtain ⟨b, sp, cap, rfl, hl, hS⟩ := refQ_open hS
  have hS := hS.nilOwn (T := 3) (sz := 1)
  refine RC.seq ?_
  refine RC.region rfl ?_
  refine RL.q (Qt.as rfl) ?_
  refine RL.nil ?_
  refine RE.sqN ?_
  refine RC.seq ?_
  refine RC.region rfl ?_
  refine RL.q (Qt.as rfl) ?_
  refine RL.nil ?_
  refine RE.sqN ?_
  refine RC.seq ?_
  refine RC.seq ?_
  refine RC.region rfl ?_
  refine RL.q (Qt.as rfl) ?_
  refine RL.nil ?_
  refine RE.sqN ?_
  refine RC.block ?_
  -- stops: loop
  refine RC.loop (γ := Nat × Value) (fun g E w' => E = [(6, .int .i64 g.1), (5, g.2), (0, .pointer (some ⟨b, 0, none⟩)), (1, .int .u8 lv)] ∧ g.1 ≤ l.length ∧ Sat oo w' [ownI g.2 (rIds (l.take g.1) lv), pt b (.cells #[.int .i64 n, .slice sp l.length cap] 68 (0, 0)), own (.slice sp l.length cap) 72 2 l.length (l.flatMap RItem.cells), R]) (fun g => l.length - g.1) (0, .slice none 0 0) _ (by (repeat (first | exact Sub.nil | refine Sub.cons rfl ?_))) ⟨rfl, by simp, by simpa [rIds, ownI, ints] using hS⟩ ?_
  clear hS
  rintro ⟨k, v⟩ E w ⟨rfl, hk, hS⟩
  dsimp only at hk hS
  refine RC.seq ?_
  refine RC.seq ?_
  refine RC.region rfl ?_
  refine RL.q (Qt.mv rfl) ?_
  refine RL.q (Qt.neqN rfl rfl) ?_
  refine RL.q (Qt.mv rfl) ?_
  refine RLG.start 9 true rfl ?_
  refine RLG.q rfl rfl rfl (fun _ => Qt.mv rfl) ?_
  refine RLG.q rfl rfl rfl (fun _ => Qt.mv rfl) ?_
  refine RLG.q rfl rfl rfl (fun _ => Qt.nil rfl) ?_
  refine RLG.q rfl rfl rfl (fun _ => Qt.fld rfl) ?_
  refine RLG.q rfl rfl rfl (fun hg => by (try simp only [Option.isSome_some] at hg); exact Qt.ld rfl (by first | exact hS.at 0 rfl | exact hS.at 1 rfl | exact hS.at 2 rfl | exact hS.at 3 rfl) (by first  | rfl)) ?_
  refine RLG.q rfl rfl rfl (fun _ => Qt.lenS rfl) ?_
  refine RLG.q rfl rfl rfl (fun hg => by (try simp only [Option.isSome_some] at hg); exact Qt.lss rfl rfl) ?_
  refine RLG.and rfl rfl ?_
  refine RL.nil ?_
  refine RE.sqN ?_
  -- stops: cond
  refine RC.cond rfl (fun h => ?_) (fun h => ?_)
  · skip
    have hlt : k < l.length := by simpa using h
    have hd : rIds (l.take (k + 1)) lv = rIds (l.take k) lv ++ (if l[k].lv = lv then [l[k].id] else []) := by
      rw [rIds, List.take_succ_eq_append_getElem hlt, List.filter_append, List.map_append]
      by_cases h1 : l[k].lv = lv <;> simp [rIds, h1]
    have hlen : (rIds (l.take k) lv).length ≤ k := by
      rw [rIds, List.length_map]
      exact Nat.le_trans (List.length_filter_le _ _) (by simp; omega)
    have hS0 := hS
    obtain ⟨bs, cap', c, hv, hc1, hc2, hc3, hc4, hS⟩ := hS.ownPos 2 rfl (by omega)
    cases hv
    refine RC.skip ?_
    refine RE.sqN ?_
    refine RC.seq ?_
    refine RC.block ?_
    refine RC.seq ?_
    refine RC.region rfl ?_
    refine RL.q (Qt.mv rfl) ?_
    refine RL.q (Qt.nil rfl) ?_
    refine RL.q (Qt.fld rfl) ?_
    refine RL.q (Qt.ld rfl (by first | exact hS.at 0 rfl | exact hS.at 1 rfl | exact hS.at 2 rfl | exact hS.at 3 rfl) (by first | exact item_id hc4 rfl hlt | exact item_lv hc4 rfl hlt | rfl)) ?_
    refine RL.q (Qt.mv rfl) ?_
    refine RL.q (Qt.ixS rfl rfl (by first | assumption | omega) (by first | assumption | omega)) ?_
    refine RL.q (Qt.fld rfl) ?_
    refine RL.q (Qt.ld rfl (by first | exact hS.at 0 rfl | exact hS.at 1 rfl | exact hS.at 2 rfl | exact hS.at 3 rfl) (by first | exact item_id hc4 rfl hlt | exact item_lv hc4 rfl hlt | rfl)) ?_
    refine RL.q (Qt.mv rfl) ?_
    refine RL.q (Qt.eql rfl rfl) ?_
    refine RL.nil ?_
    refine RE.sqN ?_
    -- stops: cond
    refine RC.cond rfl (fun h2 => ?_) (fun h2 => ?_)
    · refine RC.region rfl ?_
      refine RL.q (Qt.mv rfl) ?_
      refine RL.q (Qt.mv rfl) ?_
      refine RL.q (Qt.nil rfl) ?_
      refine RL.q (Qt.fld rfl) ?_
      refine RL.q (Qt.ld rfl (by first | exact hS.at 0 rfl | exact hS.at 1 rfl | exact hS.at 2 rfl | exact hS.at 3 rfl) (by first | exact item_id hc4 rfl hlt | exact item_lv hc4 rfl hlt | rfl)) ?_
      refine RL.q (Qt.mv rfl) ?_
      refine RL.q (Qt.ixS rfl rfl (by first | assumption | omega) (by first | assumption | omega)) ?_
      refine RL.q (Qt.fld rfl) ?_
      refine RL.q (Qt.ld rfl (by first | exact hS.at 0 rfl | exact hS.at 1 rfl | exact hS.at 2 rfl | exact hS.at 3 rfl) (by first | exact item_id hc4 rfl hlt | exact item_lv hc4 rfl hlt | rfl)) ?_
      refine RL.e (Ef.bsl1 hS rfl) ?_
      rintro _ w ⟨b39, rfl, hS⟩
      try simp (disch := omega) only [List.set_cons_zero, List.set_cons_succ, cells_int'] at hS
      first | refine RL.e (Ef.app (k := 0) hS rfl rfl rfl (Src.pt (hS.get 0 rfl) (by first | exact Nat.le_of_ble_eq_true rfl | omega | (simp only [Array.size_map]; omega))) (by first | assumption | omega) (by first | rfl | simp)) ?_ | refine RL.e (Ef.app (k := 0) hS rfl rfl rfl (Src.pt (hS.get 1 rfl) (by first | exact Nat.le_of_ble_eq_true rfl | omega | (simp only [Array.size_map]; omega))) (by first | assumption | omega) (by first | rfl | simp)) ?_ | refine RL.e (Ef.app (k := 0) hS rfl rfl rfl (Src.pt (hS.get 2 rfl) (by first | exact Nat.le_of_ble_eq_true rfl | omega | (simp only [Array.size_map]; omega))) (by first | assumption | omega) (by first | rfl | simp)) ?_ | refine RL.e (Ef.app (k := 0) hS rfl rfl rfl (Src.pt (hS.get 3 rfl) (by first | exact Nat.le_of_ble_eq_true rfl | omega | (simp only [Array.size_map]; omega))) (by first | assumption | omega) (by first | rfl | simp)) ?_ | refine RL.e (Ef.app (k := 0) hS rfl rfl rfl (Src.pt (hS.get 4 rfl) (by first | exact Nat.le_of_ble_eq_true rfl | omega | (simp only [Array.size_map]; omega))) (by first | assumption | omega) (by first | rfl | simp)) ?_ | refine RL.e (Ef.app (k := 0) hS rfl rfl rfl (Src.own hS 0 rfl) (by first | assumption | omega) (by first | rfl | simp)) ?_ | refine RL.e (Ef.app (k := 0) hS rfl rfl rfl (Src.own hS 1 rfl) (by first | assumption | omega) (by first | rfl | simp)) ?_ | refine RL.e (Ef.app (k := 0) hS rfl rfl rfl (Src.own hS 2 rfl) (by first | assumption | omega) (by first | rfl | simp)) ?_ | refine RL.e (Ef.app (k := 0) hS rfl rfl rfl (Src.own hS 3 rfl) (by first | assumption | omega) (by first | rfl | simp)) ?_ | refine RL.e (Ef.app (k := 0) hS rfl rfl rfl (Src.own hS 4 rfl) (by first | assumption | omega) (by first | rfl | simp)) ?_ | refine RL.e (Ef.app (k := 1) hS rfl rfl rfl (Src.pt (hS.get 0 rfl) (by first | exact Nat.le_of_ble_eq_true rfl | omega | (simp only [Array.size_map]; omega))) (by first | assumption | omega) (by first | rfl | simp)) ?_ | refine RL.e (Ef.app (k := 1) hS rfl rfl rfl (Src.pt (hS.get 1 rfl) (by first | exact Nat.le_of_ble_eq_true rfl | omega | (simp only [Array.size_map]; omega))) (by first | assumption | omega) (by first | rfl | simp)) ?_ | refine RL.e (Ef.app (k := 1) hS rfl rfl rfl (Src.pt (hS.get 2 rfl) (by first | exact Nat.le_of_ble_eq_true rfl | omega | (simp only [Array.size_map]; omega))) (by first | assumption | omega) (by first | rfl | simp)) ?_ | refine RL.e (Ef.app (k := 1) hS rfl rfl rfl (Src.pt (hS.get 3 rfl) (by first | exact Nat.le_of_ble_eq_true rfl | omega | (simp only [Array.size_map]; omega))) (by first | assumption | omega) (by first | rfl | simp)) ?_ | refine RL.e (Ef.app (k := 1) hS rfl rfl rfl (Src.pt (hS.get 4 rfl) (by first | exact Nat.le_of_ble_eq_true rfl | omega | (simp only [Array.size_map]; omega))) (by first | assumption | omega) (by first | rfl | simp)) ?_ | refine RL.e (Ef.app (k := 1) hS rfl rfl rfl (Src.own hS 0 rfl) (by first | assumption | omega) (by first | rfl | simp)) ?_ | refine RL.e (Ef.app (k := 1) hS rfl rfl rfl (Src.own hS 1 rfl) (by first | assumption | omega) (by first | rfl | simp)) ?_ | refine RL.e (Ef.app (k := 1) hS rfl rfl rfl (Src.own hS 2 rfl) (by first | assumption | omega) (by first | rfl | simp)) ?_ | refine RL.e (Ef.app (k := 1) hS rfl rfl rfl (Src.own hS 3 rfl) (by first | assumption | omega) (by first | rfl | simp)) ?_ | refine RL.e (Ef.app (k := 1) hS rfl rfl rfl (Src.own hS 4 rfl) (by first | assumption | omega) (by first | rfl | simp)) ?_ | refine RL.e (Ef.app (k := 2) hS rfl rfl rfl (Src.pt (hS.get 0 rfl) (by first | exact Nat.le_of_ble_eq_true rfl | omega | (simp only [Array.size_map]; omega))) (by first | assumption | omega) (by first | rfl | simp)) ?_ | refine RL.e (Ef.app (k := 2) hS rfl rfl rfl (Src.pt (hS.get 1 rfl) (by first | exact Nat.le_of_ble_eq_true rfl | omega | (simp only [Array.size_map]; omega))) (by first | assumption | omega) (by first | rfl | simp)) ?_ | refine RL.e (Ef.app (k := 2) hS rfl rfl rfl (Src.pt (hS.get 2 rfl) (by first | exact Nat.le_of_ble_eq_true rfl | omega | (simp only [Array.size_map]; omega))) (by first | assumption | omega) (by first | rfl | simp)) ?_ | refine RL.e (Ef.app (k := 2) hS rfl rfl rfl (Src.pt (hS.get 3 rfl) (by first | exact Nat.le_of_ble_eq_true rfl | omega | (simp only [Array.size_map]; omega))) (by first | assumption | omega) (by first | rfl | simp)) ?_ | refine RL.e (Ef.app (k := 2) hS rfl rfl rfl (Src.pt (hS.get 4 rfl) (by first | exact Nat.le_of_ble_eq_true rfl | omega | (simp only [Array.size_map]; omega))) (by first | assumption | omega) (by first | rfl | simp)) ?_ | refine RL.e (Ef.app (k := 2) hS rfl rfl rfl (Src.own hS 0 rfl) (by first | assumption | omega) (by first | rfl | simp)) ?_ | refine RL.e (Ef.app (k := 2) hS rfl rfl rfl (Src.own hS 1 rfl) (by first | assumption | omega) (by first | rfl | simp)) ?_ | refine RL.e (Ef.app (k := 2) hS rfl rfl rfl (Src.own hS 2 rfl) (by first | assumption | omega) (by first | rfl | simp)) ?_ | refine RL.e (Ef.app (k := 2) hS rfl rfl rfl (Src.own hS 3 rfl) (by first | assumption | omega) (by first | rfl | simp)) ?_ | refine RL.e (Ef.app (k := 2) hS rfl rfl rfl (Src.own hS 4 rfl) (by first | assumption | omega) (by first | rfl | simp)) ?_ | refine RL.e (Ef.app (k := 3) hS rfl rfl rfl (Src.pt (hS.get 0 rfl) (by first | exact Nat.le_of_ble_eq_true rfl | omega | (simp only [Array.size_map]; omega))) (by first | assumption | omega) (by first | rfl | simp)) ?_ | refine RL.e (Ef.app (k := 3) hS rfl rfl rfl (Src.pt (hS.get 1 rfl) (by first | exact Nat.le_of_ble_eq_true rfl | omega | (simp only [Array.size_map]; omega))) (by first | assumption | omega) (by first | rfl | simp)) ?_ | refine RL.e (Ef.app (k := 3) hS rfl rfl rfl (Src.pt (hS.get 2 rfl) (by first | exact Nat.le_of_ble_eq_true rfl | omega | (simp only [Array.size_map]; omega))) (by first | assumption | omega) (by first | rfl | simp)) ?_ | refine RL.e (Ef.app (k := 3) hS rfl rfl rfl (Src.pt (hS.get 3 rfl) (by first | exact Nat.le_of_ble_eq_true rfl | omega | (simp only [Array.size_map]; omega))) (by first | assumption | omega) (by first | rfl | simp)) ?_ | refine RL.e (Ef.app (k := 3) hS rfl rfl rfl (Src.pt (hS.get 4 rfl) (by first | exact Nat.le_of_ble_eq_true rfl | omega | (simp only [Array.size_map]; omega))) (by first | assumption | omega) (by first | rfl | simp)) ?_ | refine RL.e (Ef.app (k := 3) hS rfl rfl rfl (Src.own hS 0 rfl) (by first | assumption | omega) (by first | rfl | simp)) ?_ | refine RL.e (Ef.app (k := 3) hS rfl rfl rfl (Src.own hS 1 rfl) (by first | assumption | omega) (by first | rfl | simp)) ?_ | refine RL.e (Ef.app (k := 3) hS rfl rfl rfl (Src.own hS 2 rfl) (by first | assumption | omega) (by first | rfl | simp)) ?_ | refine RL.e (Ef.app (k := 3) hS rfl rfl rfl (Src.own hS 3 rfl) (by first | assumption | omega) (by first | rfl | simp)) ?_ | refine RL.e (Ef.app (k := 3) hS rfl rfl rfl (Src.own hS 4 rfl) (by first | assumption | omega) (by first | rfl | simp)) ?_ | refine RL.e (Ef.app (k := 4) hS rfl rfl rfl (Src.pt (hS.get 0 rfl) (by first | exact Nat.le_of_ble_eq_true rfl | omega | (simp only [Array.size_map]; omega))) (by first | assumption | omega) (by first | rfl | simp)) ?_ | refine RL.e (Ef.app (k := 4) hS rfl rfl rfl (Src.pt (hS.get 1 rfl) (by first | exact Nat.le_of_ble_eq_true rfl | omega | (simp only [Array.size_map]; omega))) (by first | assumption | omega) (by first | rfl | simp)) ?_ | refine RL.e (Ef.app (k := 4) hS rfl rfl rfl (Src.pt (hS.get 2 rfl) (by first | exact Nat.le_of_ble_eq_true rfl | omega | (simp only [Array.size_map]; omega))) (by first | assumption | omega) (by first | rfl | simp)) ?_ | refine RL.e (Ef.app (k := 4) hS rfl rfl rfl (Src.pt (hS.get 3 rfl) (by first | exact Nat.le_of_ble_eq_true rfl | omega | (simp only [Array.size_map]; omega))) (by first | assumption | omega) (by first | rfl | simp)) ?_ | refine RL.e (Ef.app (k := 4) hS rfl rfl rfl (Src.pt (hS.get 4 rfl) (by first | exact Nat.le_of_ble_eq_true rfl | omega | (simp only [Array.size_map]; omega))) (by first | assumption | omega) (by first | rfl | simp)) ?_ | refine RL.e (Ef.app (k := 4) hS rfl rfl rfl (Src.own hS 0 rfl) (by first | assumption | omega) (by first | rfl | simp)) ?_ | refine RL.e (Ef.app (k := 4) hS rfl rfl rfl (Src.own hS 1 rfl) (by first | assumption | omega) (by first | rfl | simp)) ?_ | refine RL.e (Ef.app (k := 4) hS rfl rfl rfl (Src.own hS 2 rfl) (by first | assumption | omega) (by first | rfl | simp)) ?_ | refine RL.e (Ef.app (k := 4) hS rfl rfl rfl (Src.own hS 3 rfl) (by first | assumption | omega) (by first | rfl | simp)) ?_ | refine RL.e (Ef.app (k := 4) hS rfl rfl rfl (Src.own hS 4 rfl) (by first | assumption | omega) (by first | rfl | simp)) ?_
      intro s40 w hS
      simp only [List.set_cons_zero, List.set_cons_succ, List.drop_zero] at hS
      first | (obtain ⟨sp40, cp40, rfl⟩ := hS.ownForm 0 rfl) | (obtain ⟨sp40, cp40, rfl⟩ := hS.ownForm 1 rfl) | (obtain ⟨sp40, cp40, rfl⟩ := hS.ownForm 2 rfl) | (obtain ⟨sp40, cp40, rfl⟩ := hS.ownForm 3 rfl) | (obtain ⟨sp40, cp40, rfl⟩ := hS.ownForm 4 rfl)
      refine RL.q (Qt.as rfl) ?_
      refine RL.nil ?_
      refine RE.bkN ?_
      refine RE.sqN ?_
      refine RC.region rfl ?_
      refine RL.q (Qt.mv rfl) ?_
      refine RL.q ((by first | exact Qt.addI rfl rfl (by dsimp only [inK]; omega) | exact Qt.add rfl rfl)) ?_
      refine RL.q (Qt.as rfl) ?_
      refine RL.nil ?_
      -- stops: next
      have h2 : l[k].lv = lv := of_decide_eq_true h2
      rw [if_pos h2] at hd
      have hS := hS.pick [1, 2, 3, 4] (by decide) rfl
      have hS := hS.ownMk (cap := cap) (n := l.length) (sz := 2) (cs := l.flatMap RItem.cells) 2 rfl hc1 hc2 hc3 hc4
      apply RE.lpN ((k + 1, .slice sp40 ((rIds (List.take k l) lv).length + 1) cp40))
      case hI => exact ⟨rfl, hlt, by rw [hd]; simpa [ints, ownI] using hS⟩
      case hs => (repeat (first | exact Sub.nil | refine Sub.cons rfl ?_))
      case hm =>
        show l.length - (k + 1) < l.length - k
        omega
    · refine RC.skip ?_
      refine RE.bkN ?_
      refine RE.sqN ?_
      refine RC.region rfl ?_
      refine RL.q (Qt.mv rfl) ?_
      refine RL.q ((by first | exact Qt.addI rfl rfl (by dsimp only [inK]; omega) | exact Qt.add rfl rfl)) ?_
      refine RL.q (Qt.as rfl) ?_
      refine RL.nil ?_
      -- stops: next
      have h2 : ¬ l[k].lv = lv := of_decide_eq_false h2
      rw [if_neg h2, List.append_nil] at hd
      apply RE.lpN ((k + 1, v))
      case hI => exact ⟨rfl, hlt, by rw [hd]; exact hS0⟩
      case hs => (repeat (first | exact Sub.nil | refine Sub.cons rfl ?_))
      case hm =>
        show l.length - (k + 1) < l.length - k
        omega
  · refine RC.exit ?_
    refine RE.sqX ?_
    refine RE.lpX ?_
    refine RE.bkX ?_
    refine RE.sqN ?_
    refine RC.seq ?_
    refine RC.region rfl ?_
    refine RL.q (Qt.mv rfl) ?_
    refine RL.q (Qt.as rfl) ?_
    refine RL.nil ?_
    refine RE.sqN ?_
    refine RC.ret ?_
    -- stops: end ret
    have hge : k = l.length := by
      have : ¬ k < l.length := by simpa using h
      omega
    subst hge
    rw [List.take_length] at hS
    refine RE.retB rfl (ps := [ownI v (rIds l lv), refQ _ n l]) rfl ?_
    exact (refQ_shut hl (hS.pick [1, 2, 0, 3] (by decide) rfl)).pick [1, 0, 2] (by decide) rfl

set_option maxHeartbeats 1000000 in
theorem rqFork (p : Value) (n : Nat) (l : List RItem) : Ct Try.prog 25 #[p] [refQ p n l] (fun v ps => ps = [refQ p n l, refQ v n l]) := by
  refine Ct.enter Try.func25 rfl (Nat.le_of_ble_eq_true rfl) ?_
  intro oo w R hS
  change RC _ _ _ _ _ _ [(0, _)] _
  obtain ⟨b, sp, cap, rfl, hl, hS⟩ := refQ_open hS
  refine RC.seq ?_
  refine RC.region rfl ?_
  refine RL.q (Qt.as rfl) ?_
  refine RL.nil ?_
  refine RE.sqN ?_
  refine RC.seq ?_
  refine RC.seq ?_
  refine RC.region rfl ?_
  refine RL.q (Qt.mv rfl) ?_
  refine RL.q (Qt.eqlN rfl rfl) ?_
  refine RL.nil ?_
  refine RE.sqN ?_
  -- stops: cond
  refine RC.condF rfl (rfl) ?_
  refine RC.skip ?_
  refine RE.sqN ?_
  refine RC.seq ?_
  -- stops: drawn
  refine RC.drawn 10 [0, 1, 2, 3, 5, 6, 7, 8, 4, 9] (fun w' => w'.heap[b]? = some (.cells #[.int .i64 n, .slice sp l.length cap] 68 (0, 0))) (by kernel_rfl) (by kernel_rfl) (hS.drew.get 0 rfl) (fun hh => ?_)
  replace hS := hS.drew
  refine RH.q hh (Calm.sq Calm.body) rfl (by kernel_rfl) (Qt.mv rfl) ?_
  refine RH.q hh (Calm.sq Calm.body) rfl (by kernel_rfl) (Qt.nil rfl) ?_
  refine RH.q hh (Calm.sq Calm.body) rfl (by kernel_rfl) (Qt.fld rfl) ?_
  refine RH.q hh (Calm.sq Calm.body) rfl (by kernel_rfl) (Qt.ld rfl (fun _ h => h) (by first  | rfl)) ?_
  refine RH.q hh (Calm.sq Calm.body) rfl (by kernel_rfl) (Qt.mv rfl) ?_
  refine RH.q hh (Calm.sq Calm.body) rfl (by kernel_rfl) (Qt.nil rfl) ?_
  refine RH.q hh (Calm.sq Calm.body) rfl (by kernel_rfl) (Qt.fld rfl) ?_
  refine RH.q hh (Calm.sq Calm.body) rfl (by kernel_rfl) (Qt.ld rfl (fun _ h => h) (by first  | rfl)) ?_
  refine RH.e hh rfl (by kernel_rfl) (Ef.bsl0 hS) ?_
  rintro _ w ⟨b9, rfl, hS⟩
  try simp (disch := omega) only [List.set_cons_zero, List.set_cons_succ, cells_int, cells_bool, cells_ptr, cells_slice, cells_func, cells_agg, cells_map, cells_int', cells_bool', cells_ptr', cells_slice', cells_agg', cells_map', cells_func', Nat.zero_add, wr, List.setIfInBounds_toArray] at hS
  refine ⟨hS.get 1 rfl, ?_⟩
  first | refine RH.e hh rfl (by kernel_rfl) (Ef.app (k := 0) hS rfl rfl rfl (by first | exact Src.own hS 2 rfl) (by first | assumption | omega) (items_plain _)) ?_
  intro s14 w hS
  simp only [List.set_cons_zero] at hS
  first | (obtain ⟨sp14, cp14, rfl⟩ := hS.ownForm 0 rfl)
  refine ⟨hS.get 1 rfl, ?_⟩
  refine RH.done hh (by kernel_rfl) ?_
  refine RL.q (Qt.bldV [.tmp 8, .tmp 14] rfl rfl (by kernel_rfl)) ?_
  refine RL.e (Ef.box hS rfl) ?_
  rintro _ w ⟨b16, rfl, hS⟩
  try simp (disch := omega) only [cells_agg', Nat.zero_add] at hS
  refine RL.q (Qt.as rfl) ?_
  refine RL.nil ?_
  refine RE.sqN ?_
  refine RC.ret ?_
  -- stops: end ret
  refine RE.retB rfl rfl ?_
  simp only [List.nil_append] at hS
  have h1 := refQ_shut hl (hS.pick [0, 1, 2, 3, 4] (by decide) rfl)
  exact refQ_shut hl (h1.pick [1, 2, 0, 3] (by decide) rfl)

set_option maxHeartbeats 1000000 in
theorem rSame (a b : Value) (x y : List Int) (hlx : x.length ≤ 1000000) : Ct Try.prog 23 #[a, b] [ownI a x, ownI b y] (fun v ps => v = .bool (decide (x = y)) ∧ ps = []) := by
  refine Ct.enter Try.func23 rfl (Nat.le_of_ble_eq_true rfl) ?_
  intro oo w R hS
  change RC _ _ _ _ _ _ [(0, _), (1, _)] _
  obtain ⟨sa, ca, rfl⟩ := hS.ownForm 0 rfl
  obtain ⟨sb, cb, rfl⟩ := hS.ownForm 1 rfl
  refine RC.seq ?_
  refine RC.region rfl ?_
  refine RL.q (Qt.as rfl) ?_
  refine RL.nil ?_
  refine RE.sqN ?_
  refine RC.seq ?_
  refine RC.seq ?_
  refine RC.region rfl ?_
  refine RL.q (Qt.mv rfl) ?_
  refine RL.q (Qt.lenS rfl) ?_
  refine RL.q (Qt.mv rfl) ?_
  refine RL.q (Qt.lenS rfl) ?_
  refine RL.q (Qt.neq rfl rfl) ?_
  refine RL.nil ?_
  refine RE.sqN ?_
  -- stops: cond
  refine RC.cond rfl (fun h => ?_) (fun h => ?_)
  · refine RC.seq ?_
    refine RC.region rfl ?_
    refine RL.q (Qt.as rfl) ?_
    refine RL.nil ?_
    refine RE.sqN ?_
    refine RC.ret ?_
    refine RE.sqR ?_
    -- stops: end ret
    have h : ¬ x.length = y.length := by
      have := of_decide_eq_true h
      omega
    refine RE.retB rfl (ps := []) ⟨?_, rfl⟩ (hS.pick [2] (by decide) rfl)
    simp only [oneOf, Value.bool.injEq, Bool.false_eq, decide_eq_false_iff_not]
    intro e
    exact h (by rw [e])
  · refine RC.skip ?_
    refine RE.sqN ?_
    refine RC.seq ?_
    refine RC.seq ?_
    refine RC.region rfl ?_
    refine RL.q (Qt.as rfl) ?_
    refine RL.nil ?_
    refine RE.sqN ?_
    refine RC.block ?_
    -- stops: loop
    have h : x.length = y.length := by
      have := of_decide_eq_false h
      omega
    refine RC.loop (γ := Nat) (fun k E w' => E = [(5, .int .i64 k), (0, .slice sa x.length ca), (1, .slice sb y.length cb)] ∧ k ≤ x.length ∧ x.take k = y.take k ∧ Sat oo w' [ownI (.slice sa x.length ca) x, ownI (.slice sb y.length cb) y, R]) (fun k => x.length - k) 0 _ (by (repeat (first | exact Sub.nil | refine Sub.cons rfl ?_))) ⟨rfl, by omega, by simp, hS⟩ ?_
    clear hS
    rintro k E w ⟨rfl, hk, ht, hS⟩
    refine RC.seq ?_
    refine RC.seq ?_
    refine RC.region rfl ?_
    refine RL.q (Qt.mv rfl) ?_
    refine RL.q (Qt.mv rfl) ?_
    refine RL.q (Qt.lenS rfl) ?_
    refine RL.q (Qt.lss rfl rfl) ?_
    refine RL.nil ?_
    refine RE.sqN ?_
    -- stops: cond
    refine RC.cond rfl (fun h2 => ?_) (fun h2 => ?_)
    · skip
      have hlt : k < x.length := by simpa using h2
      have hlt2 : k < y.length := by omega
      have hS0 := hS
      obtain ⟨b1, c1, d1, hv, hc1, hc2, hc3, hc4, hS⟩ := hS.ownPos 0 rfl (by omega)
      cases hv
      obtain ⟨b2, c2, d2, hv, hd1, hd2, hd3, hd4, hS⟩ := hS.ownPos 1 rfl (by omega)
      cases hv
      refine RC.skip ?_
      refine RE.sqN ?_
      refine RC.seq ?_
      refine RC.block ?_
      refine RC.seq ?_
      refine RC.drawn 9 [0, 1, 2, 3, 4, 5, 6, 7, 8] (Same _) (by kernel_rfl) (by kernel_rfl) Same.drew (fun hh => ?_)
      replace hS := hS.drew
      refine RH.q hh (Calm.sq (Calm.bk (Calm.sq (Calm.lp (Calm.bk (Calm.sq Calm.body)))))) rfl (by kernel_rfl) (Qt.mv rfl) ?_
      refine RH.q hh (Calm.sq (Calm.bk (Calm.sq (Calm.lp (Calm.bk (Calm.sq Calm.body)))))) rfl (by kernel_rfl) (Qt.mv rfl) ?_
      refine RH.q hh (Calm.sq (Calm.bk (Calm.sq (Calm.lp (Calm.bk (Calm.sq Calm.body)))))) rfl (by kernel_rfl) (Qt.ixS rfl rfl (by first | assumption | omega) (by first | assumption | omega)) ?_
      refine RH.q hh (Calm.sq (Calm.bk (Calm.sq (Calm.lp (Calm.bk (Calm.sq Calm.body)))))) rfl (by kernel_rfl) (Qt.ld rfl (by first | exact hS.at 0 rfl | exact hS.at 1 rfl | exact hS.at 2 rfl) (by first | exact int_cell hc4 rfl hlt | exact int_cell hd4 rfl hlt2 | rfl)) ?_
      refine RH.q hh (Calm.sq (Calm.bk (Calm.sq (Calm.lp (Calm.bk (Calm.sq Calm.body)))))) rfl (by kernel_rfl) (Qt.mv rfl) ?_
      refine RH.q hh (Calm.sq (Calm.bk (Calm.sq (Calm.lp (Calm.bk (Calm.sq Calm.body)))))) rfl (by kernel_rfl) (Qt.mv rfl) ?_
      refine RH.q hh (Calm.sq (Calm.bk (Calm.sq (Calm.lp (Calm.bk (Calm.sq Calm.body)))))) rfl (by kernel_rfl) (Qt.ixS rfl rfl (by first | assumption | omega) (by first | assumption | omega)) ?_
      refine RH.q hh (Calm.sq (Calm.bk (Calm.sq (Calm.lp (Calm.bk (Calm.sq Calm.body)))))) rfl (by kernel_rfl) (Qt.ld rfl (by first | exact hS.at 0 rfl | exact hS.at 1 rfl | exact hS.at 2 rfl) (by first | exact int_cell hc4 rfl hlt | exact int_cell hd4 rfl hlt2 | rfl)) ?_
      refine RH.q hh (Calm.sq (Calm.bk (Calm.sq (Calm.lp (Calm.bk (Calm.sq Calm.body)))))) rfl (by kernel_rfl) (Qt.neq rfl rfl) ?_
      refine RH.done hh (by kernel_rfl) ?_
      refine RL.nil ?_
      refine RE.sqN ?_
      -- stops: cond
      refine RC.cond rfl (fun h3 => ?_) (fun h3 => ?_)
      · refine RC.seq ?_
        refine RC.region rfl ?_
        refine RL.q (Qt.as rfl) ?_
        refine RL.nil ?_
        refine RE.sqN ?_
        refine RC.ret ?_
        refine RE.bkR ?_
        refine RE.sqR ?_
        refine RE.lpR ?_
        refine RE.bkR ?_
        refine RE.sqR ?_
        -- stops: end ret
        have h3 := of_decide_eq_true h3
        refine RE.retB rfl (ps := []) ⟨?_, rfl⟩ (hS.pick [2] (by decide) rfl)
        simp only [oneOf, Value.bool.injEq, Bool.false_eq, decide_eq_false_iff_not]
        intro e
        subst e
        exact h3 rfl
      · refine RC.skip ?_
        refine RE.bkN ?_
        refine RE.sqN ?_
        refine RC.region rfl ?_
        refine RL.q (Qt.mv rfl) ?_
        refine RL.q ((by first | exact Qt.addI rfl rfl (by dsimp only [inK]; omega) | exact Qt.add rfl rfl)) ?_
        refine RL.q (Qt.as rfl) ?_
        refine RL.nil ?_
        -- stops: next
        have h3 := of_decide_eq_false h3
        have h4 : x[k] = y[k] := Classical.not_not.1 h3
        apply RE.lpN (k + 1)
        case hI => exact ⟨rfl, hlt, by rw [List.take_succ_eq_append_getElem hlt, List.take_succ_eq_append_getElem hlt2, ht, h4], hS0.drew⟩
        case hs => (repeat (first | exact Sub.nil | refine Sub.cons rfl ?_))
        case hm =>
          show x.length - (k + 1) < x.length - k
          omega
    · refine RC.exit ?_
      refine RE.sqX ?_
      refine RE.lpX ?_
      refine RE.bkX ?_
      refine RE.sqN ?_
      refine RC.seq ?_
      refine RC.region rfl ?_
      refine RL.q (Qt.as rfl) ?_
      refine RL.nil ?_
      refine RE.sqN ?_
      refine RC.ret ?_
      -- stops: end ret
      have hge : k = x.length := by
        have : ¬ k < x.length := by simpa using h2
        omega
      subst hge
      rw [List.take_length, h, List.take_length] at ht
      refine RE.retB rfl (ps := []) ⟨?_, rfl⟩ (hS.pick [2] (by decide) rfl)
      simp [oneOf, ht]
end Go.Proofs

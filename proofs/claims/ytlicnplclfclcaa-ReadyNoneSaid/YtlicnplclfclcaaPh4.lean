/- The heap of deadlines: New, Fork, List. -/
import Derived.Test.YtlicnplclfclcaaPh3
import Derived.Test.YtlicnplclfclcaaOutI
namespace Go.Proofs
open Go Go.Gx
variable {oo : World}

set_option maxHeartbeats 1000000 in
theorem phClone (f : PH) (n bl cap : Nat) (h0 : 1 ≤ n) (h1 : n ≤ 1024) : Ct Try.prog 89 #[.slice (some ⟨bl, 0, none⟩) n cap] [hT bl n f]
    (fun v ps => ∃ b' cap', v = .slice (some ⟨b', 0, none⟩) n cap' ∧ ps = [hT b' n f, hT bl n f]) := by
  refine Ct.enter Try.func89 rfl (Nat.le_of_ble_eq_true rfl) ?_
  intro oo w R hS
  change RC _ _ _ _ _ _ [(0, _)] _
  obtain ⟨c0, h, hS⟩ := hS.tabOpen 0 rfl
  have hsz := h.size
  refine RC.seq ?_
  refine RC.region rfl ?_
  refine RL.q (Qt.as rfl) ?_
  refine RL.nil ?_
  refine RE.sqN ?_
  refine RC.seq ?_
  refine RC.seq ?_
  refine RC.region rfl ?_
  refine RL.q (Qt.mv rfl) ?_
  refine RL.q (Qt.eqlS rfl rfl) ?_
  refine RL.nil ?_
  refine RE.sqN ?_
  -- stops: cond
  refine RC.condF rfl (rfl) ?_
  refine RC.skip ?_
  refine RE.sqN ?_
  refine RC.seq ?_
  refine RC.region rfl ?_
  refine RL.e (Ef.bsl0 hS) ?_
  rintro _ w ⟨b5, rfl, hS⟩
  try simp (disch := omega) only [List.set_cons_zero, List.set_cons_succ, cells_int, cells_bool, cells_ptr, cells_slice, cells_func, cells_agg, cells_map, cells_int', cells_bool', cells_ptr', cells_slice', cells_agg', cells_map', cells_func', Nat.zero_add, wr, List.setIfInBounds_toArray] at hS
  refine RL.q (Qt.mv rfl) ?_
  first | refine RL.e (Ef.app (k := 0) hS rfl rfl rfl (Src.pt (hS.get 0 rfl) (by first | exact Nat.le_of_ble_eq_true rfl | omega | (simp only [Array.size_map]; omega))) (by first | assumption | omega | (dsimp only; omega)) (h.plain (fun _ => rfl))) ?_ | refine RL.e (Ef.app (k := 0) hS rfl rfl rfl (Src.pt (hS.get 1 rfl) (by first | exact Nat.le_of_ble_eq_true rfl | omega | (simp only [Array.size_map]; omega))) (by first | assumption | omega | (dsimp only; omega)) (h.plain (fun _ => rfl))) ?_ | refine RL.e (Ef.app (k := 0) hS rfl rfl rfl (Src.pt (hS.get 2 rfl) (by first | exact Nat.le_of_ble_eq_true rfl | omega | (simp only [Array.size_map]; omega))) (by first | assumption | omega | (dsimp only; omega)) (h.plain (fun _ => rfl))) ?_ | refine RL.e (Ef.app (k := 0) hS rfl rfl rfl (Src.own hS 0 rfl) (by first | assumption | omega | (dsimp only; omega)) (h.plain (fun _ => rfl))) ?_ | refine RL.e (Ef.app (k := 0) hS rfl rfl rfl (Src.own hS 1 rfl) (by first | assumption | omega | (dsimp only; omega)) (h.plain (fun _ => rfl))) ?_ | refine RL.e (Ef.app (k := 0) hS rfl rfl rfl (Src.own hS 2 rfl) (by first | assumption | omega | (dsimp only; omega)) (h.plain (fun _ => rfl))) ?_ | refine RL.e (Ef.app (k := 1) hS rfl rfl rfl (Src.pt (hS.get 0 rfl) (by first | exact Nat.le_of_ble_eq_true rfl | omega | (simp only [Array.size_map]; omega))) (by first | assumption | omega | (dsimp only; omega)) (h.plain (fun _ => rfl))) ?_ | refine RL.e (Ef.app (k := 1) hS rfl rfl rfl (Src.pt (hS.get 1 rfl) (by first | exact Nat.le_of_ble_eq_true rfl | omega | (simp only [Array.size_map]; omega))) (by first | assumption | omega | (dsimp only; omega)) (h.plain (fun _ => rfl))) ?_ | refine RL.e (Ef.app (k := 1) hS rfl rfl rfl (Src.pt (hS.get 2 rfl) (by first | exact Nat.le_of_ble_eq_true rfl | omega | (simp only [Array.size_map]; omega))) (by first | assumption | omega | (dsimp only; omega)) (h.plain (fun _ => rfl))) ?_ | refine RL.e (Ef.app (k := 1) hS rfl rfl rfl (Src.own hS 0 rfl) (by first | assumption | omega | (dsimp only; omega)) (h.plain (fun _ => rfl))) ?_ | refine RL.e (Ef.app (k := 1) hS rfl rfl rfl (Src.own hS 1 rfl) (by first | assumption | omega | (dsimp only; omega)) (h.plain (fun _ => rfl))) ?_ | refine RL.e (Ef.app (k := 1) hS rfl rfl rfl (Src.own hS 2 rfl) (by first | assumption | omega | (dsimp only; omega)) (h.plain (fun _ => rfl))) ?_ | refine RL.e (Ef.app (k := 2) hS rfl rfl rfl (Src.pt (hS.get 0 rfl) (by first | exact Nat.le_of_ble_eq_true rfl | omega | (simp only [Array.size_map]; omega))) (by first | assumption | omega | (dsimp only; omega)) (h.plain (fun _ => rfl))) ?_ | refine RL.e (Ef.app (k := 2) hS rfl rfl rfl (Src.pt (hS.get 1 rfl) (by first | exact Nat.le_of_ble_eq_true rfl | omega | (simp only [Array.size_map]; omega))) (by first | assumption | omega | (dsimp only; omega)) (h.plain (fun _ => rfl))) ?_ | refine RL.e (Ef.app (k := 2) hS rfl rfl rfl (Src.pt (hS.get 2 rfl) (by first | exact Nat.le_of_ble_eq_true rfl | omega | (simp only [Array.size_map]; omega))) (by first | assumption | omega | (dsimp only; omega)) (h.plain (fun _ => rfl))) ?_ | refine RL.e (Ef.app (k := 2) hS rfl rfl rfl (Src.own hS 0 rfl) (by first | assumption | omega | (dsimp only; omega)) (h.plain (fun _ => rfl))) ?_ | refine RL.e (Ef.app (k := 2) hS rfl rfl rfl (Src.own hS 1 rfl) (by first | assumption | omega | (dsimp only; omega)) (h.plain (fun _ => rfl))) ?_ | refine RL.e (Ef.app (k := 2) hS rfl rfl rfl (Src.own hS 2 rfl) (by first | assumption | omega | (dsimp only; omega)) (h.plain (fun _ => rfl))) ?_
  intro s7 w hS
  simp only [List.set_cons_zero, List.drop_zero] at hS
  first | (obtain ⟨sp7, cp7, rfl⟩ := hS.ownForm 0 rfl) | (obtain ⟨sp7, cp7, rfl⟩ := hS.ownForm 1 rfl) | (obtain ⟨sp7, cp7, rfl⟩ := hS.ownForm 2 rfl)
  refine RL.q (Qt.as rfl) ?_
  refine RL.nil ?_
  refine RE.sqN ?_
  refine RC.ret ?_
  -- stops: end ret
  obtain ⟨b, cap', c', hv, hc1, hc2, hc3, hc4, hS⟩ := hS.ownPos 0 rfl (by omega)
  cases hv
  simp only [Nat.zero_add, List.nil_append] at hc3 hc4
  have hS := (hS.tabShut 0 rfl (h.copy (by have := Nat.mul_le_mul_right 6 hc2; omega) hc4)).tabShut 1 rfl h
  exact RE.retB rfl ⟨_, cp7, by simp only [oneOf, Nat.zero_add], rfl⟩ hS

set_option maxHeartbeats 1000000 in
theorem phFork (p : Value) (n : Nat) (l : List PItem) : Ct Try.prog 40 #[p] [hO p n l] (fun v ps => (∃ b, v = .pointer (some ⟨b, 0, none⟩)) ∧ ps = [hO v n l, hO p n l]) := by
  refine Ct.enter Try.func40 rfl (Nat.le_of_ble_eq_true rfl) ?_
  intro oo w R hS
  change RC _ _ _ _ _ _ [(0, _)] _
  obtain ⟨f, root, many, tr, b, bl, cap, rfl, hi, hn1, hn2, hS⟩ := hO_open hS
  refine RC.seq ?_
  refine RC.region rfl ?_
  refine RL.q (Qt.as rfl) ?_
  refine RL.nil ?_
  refine RE.sqN ?_
  refine RC.seq ?_
  refine RC.seq ?_
  refine RC.region rfl ?_
  refine RL.q (Qt.mv rfl) ?_
  refine RL.q (Qt.eqlN rfl rfl) ?_
  refine RL.nil ?_
  refine RE.sqN ?_
  -- stops: cond
  refine RC.condF rfl (rfl) ?_
  refine RC.skip ?_
  refine RE.sqN ?_
  refine RC.seq ?_
  -- stops: drawn
  refine RC.drawn 16 [0, 1, 2, 3, 5, 6, 7, 8, 9, 10, 11, 12, 4, 13, 14, 15] (fun w' => w'.heap[b]? = some (hC bl n cap root many)) (by kernel_rfl) (by kernel_rfl) (hS.drew.get 0 rfl) (fun hh => ?_)
  replace hS := hS.drew
  refine RH.q hh (Calm.sq Calm.body) rfl (by kernel_rfl) (Qt.mv rfl) ?_
  refine RH.q hh (Calm.sq Calm.body) rfl (by kernel_rfl) (Qt.nil rfl) ?_
  refine RH.q hh (Calm.sq Calm.body) rfl (by kernel_rfl) (Qt.fld rfl) ?_
  refine RH.q hh (Calm.sq Calm.body) rfl (by kernel_rfl) (Qt.ld rfl (fun _ h => h) (by first  | rfl)) ?_
  refine RH.q hh (Calm.sq Calm.body) rfl (by kernel_rfl) (Qt.mv rfl) ?_
  refine RH.q hh (Calm.sq Calm.body) rfl (by kernel_rfl) (Qt.nil rfl) ?_
  refine RH.q hh (Calm.sq Calm.body) rfl (by kernel_rfl) (Qt.fld rfl) ?_
  refine RH.q hh (Calm.sq Calm.body) rfl (by kernel_rfl) (Qt.ld rfl (fun _ h => h) (by first  | rfl)) ?_
  refine RH.q hh (Calm.sq Calm.body) rfl (by kernel_rfl) (Qt.mv rfl) ?_
  refine RH.q hh (Calm.sq Calm.body) rfl (by kernel_rfl) (Qt.nil rfl) ?_
  refine RH.q hh (Calm.sq Calm.body) rfl (by kernel_rfl) (Qt.fld rfl) ?_
  refine RH.q hh (Calm.sq Calm.body) rfl (by kernel_rfl) (Qt.ld rfl (fun _ h => h) (by first  | rfl)) ?_
  refine RH.e hh rfl (by kernel_rfl) (Ef.call hS (phClone f n bl cap hn1 hn2) rfl rfl Try.call89 [1] [0, 2] (by decide) rfl rfl) ?_
  rintro v9 w ⟨ps, ⟨b', cap', rfl, rfl⟩, hS⟩
  refine ⟨(by first | exact hS.get 2 rfl | exact hS.get 3 rfl), ?_⟩
  refine RH.q hh (Calm.sq Calm.body) rfl (by kernel_rfl) (Qt.bldV [.tmp 9, .tmp 13, .tmp 17] rfl rfl (by kernel_rfl)) ?_
  refine RH.e hh rfl (by kernel_rfl) (Ef.box hS rfl) ?_
  rintro _ w ⟨b19, rfl, hS⟩
  try simp (disch := omega) only [cells_agg'] at hS
  refine ⟨(by first | exact hS.get 2 rfl | exact hS.get 3 rfl), ?_⟩
  refine RH.q hh (Calm.sq Calm.body) rfl (by kernel_rfl) (Qt.as rfl) ?_
  refine RH.done hh (by kernel_rfl) ?_
  refine RL.nil ?_
  refine RE.sqN ?_
  refine RC.ret ?_
  -- stops: end ret
  have hS := hO_shut hi hn1 hn2 (hS.pick [0, 1, 3, 2, 4] (by decide) rfl)
  have hS := hO_shut hi hn1 hn2 (hS.pick [1, 2, 0, 3] (by decide) rfl)
  exact RE.retB rfl ⟨⟨_, rfl⟩, rfl⟩ (hS.pick [1, 0, 2] (by decide) rfl)

def phZero : PH := ⟨fun _ => 0, fun _ => 0, fun _ => 0, fun _ => 0, fun _ => 0, fun _ => false⟩
theorem HI.new {n : Nat} (h : 1 ≤ n) : HI n [] phZero (-1) 0 .nil :=
  ⟨Tr.nil, by simp [BT.ids, pIds], by simp [pIds], List.Pairwise.nil, by simp, by simp, fun i _ _ => by simp [phZero, pIds], rfl, rfl, fun i _ _ => by simp only [phZero]; omega⟩

set_option maxHeartbeats 1000000 in
theorem phNew (n : Int) (h0 : 1 ≤ n) (h1 : n ≤ 1024) : Ct Try.prog 43 #[.int .i64 n] [] (fun v ps => (∃ b, v = .pointer (some ⟨b, 0, none⟩)) ∧ ps = [hO v n.toNat []]) := by
  refine Ct.enter Try.func43 rfl (Nat.le_of_ble_eq_true rfl) ?_
  intro oo w R hS
  change RC _ _ _ _ _ _ [(0, _)] _
  refine RC.seq ?_
  refine RC.region rfl ?_
  refine RL.q (Qt.as rfl) ?_
  refine RL.nil ?_
  refine RE.sqN ?_
  refine RC.seq ?_
  refine RC.seq ?_
  refine RC.region rfl ?_
  refine RL.q (Qt.mv rfl) ?_
  refine RL.q (Qt.lss rfl rfl) ?_
  refine RL.q (Qt.mv rfl) ?_
  refine RLG.start 5 false rfl ?_
  refine RLG.q rfl rfl rfl (fun _ => Qt.mv rfl) ?_
  refine RLG.q rfl rfl rfl (fun hg => by (try simp only [decide_eq_false_iff_not] at hg); exact Qt.gtr rfl rfl) ?_
  refine RLG.or rfl rfl ?_
  refine RL.nil ?_
  refine RE.sqN ?_
  -- stops: cond
  refine RC.condF rfl (by simp; omega) ?_
  refine RC.skip ?_
  refine RE.sqN ?_
  refine RC.seq ?_
  refine RC.region rfl ?_
  refine RL.q (Qt.mv rfl) ?_
  refine RL.e (Ef.mks hS rfl (by first | assumption | omega | (dsimp only; omega)) (by first | assumption | omega | (dsimp only; omega)) (by decide)) ?_
  rintro _ w ⟨b10, rfl, hS⟩
  refine RL.q (Qt.bldV [.tmp 10, .const (Go.Value.int Go.IntKind.i64 (-1)), .const (Go.Value.int Go.IntKind.i64 0)] rfl rfl (by kernel_rfl)) ?_
  refine RL.e (Ef.box hS rfl) ?_
  rintro _ w ⟨b12, rfl, hS⟩
  try simp (disch := omega) only [cells_agg'] at hS
  refine RL.q (Qt.as rfl) ?_
  refine RL.nil ?_
  refine RE.sqN ?_
  refine RC.ret ?_
  -- stops: end ret
  have hS := hS.tabShut (row := prow phZero) 1 rfl (Tab.zero (z := #[.int .u64 0, .int .u64 0, .int .i64 0, .int .i64 0, .int .i64 0, .bool false]) (n := n.toNat) rfl (by decide) rfl)
  exact RE.retB rfl ⟨⟨_, rfl⟩, rfl⟩ (hO_shut (HI.new (by omega)) (by omega) (by omega) hS)
theorem phNewN (n : Int) (h : n < 1 ∨ n > 1024) : Ct Try.prog 43 #[.int .i64 n] [] (fun v ps => v = .pointer none ∧ ps = []) := by
  refine Ct.enter Try.func43 rfl (Nat.le_of_ble_eq_true rfl) ?_
  intro oo w R hS
  change RC _ _ _ _ _ _ [(0, _)] _
  refine RC.seq ?_
  refine RC.region rfl ?_
  refine RL.q (Qt.as rfl) ?_
  refine RL.nil ?_
  refine RE.sqN ?_
  refine RC.seq ?_
  refine RC.seq ?_
  refine RC.region rfl ?_
  refine RL.q (Qt.mv rfl) ?_
  refine RL.q (Qt.lss rfl rfl) ?_
  refine RL.q (Qt.mv rfl) ?_
  refine RLG.start 5 false rfl ?_
  refine RLG.q rfl rfl rfl (fun _ => Qt.mv rfl) ?_
  refine RLG.q rfl rfl rfl (fun hg => by (try simp only [decide_eq_false_iff_not] at hg); exact Qt.gtr rfl rfl) ?_
  refine RLG.or rfl rfl ?_
  refine RL.nil ?_
  refine RE.sqN ?_
  -- stops: cond
  refine RC.condT rfl (by simp; omega) ?_
  refine RC.seq ?_
  refine RC.region rfl ?_
  refine RL.q (Qt.as rfl) ?_
  refine RL.nil ?_
  refine RE.sqN ?_
  refine RC.ret ?_
  refine RE.sqR ?_
  -- stops: end ret
  exact RE.retB rfl ⟨rfl, rfl⟩ hS

set_option maxHeartbeats 1000000 in
theorem phList (p : Value) (n : Nat) (l : List PItem) : Ct Try.prog 30 #[p] [hO p n l] (fun v ps => ps = [ownI v (pIds l), hO p n l]) := by
  refine Ct.enter Try.func30 rfl (Nat.le_of_ble_eq_true rfl) ?_
  intro oo w R hS
  change RC _ _ _ _ _ _ [(0, _)] _
  obtain ⟨hok, hn1, hn2⟩ := hO_pok hS
  have hlen := hok.lenLe
  refine RC.seq ?_
  refine RC.region rfl ?_
  refine RL.q (Qt.as rfl) ?_
  refine RL.nil ?_
  refine RE.sqN ?_
  refine RC.seq ?_
  refine RC.region rfl ?_
  refine RL.q (Qt.as rfl) ?_
  refine RL.nil ?_
  refine RE.sqN ?_
  refine RC.seq ?_
  refine RC.region rfl ?_
  refine RL.q (Qt.mv rfl) ?_
  -- stops: op call
  refine RL.e (Ef.call hS (phFork p n l) rfl rfl Try.call40 [0] [1] (by decide) rfl rfl) ?_
  rintro v8 w ⟨ps, ⟨⟨bf, rfl⟩, rfl⟩, hS⟩
  refine RL.q (Qt.as rfl) ?_
  refine RL.nil ?_
  refine RE.sqN ?_
  refine RC.seq ?_
  refine RC.seq ?_
  refine RC.region rfl ?_
  refine RL.q (Qt.mv rfl) ?_
  -- stops: op call
  refine RL.e (Ef.call hS (phTake _ n l) rfl rfl Try.call39 [0] [1, 2] (by decide) rfl rfl) ?_
  rintro v11 w ⟨ps, ⟨rfl, rfl⟩, hS⟩
  refine RL.q (Qt.mv rfl) ?_
  refine RL.q (Qt.ext rfl rfl) ?_
  refine RL.q (Qt.ext rfl rfl) ?_
  refine RL.q (Qt.as rfl) ?_
  refine RL.q (Qt.as rfl) ?_
  refine RL.nil ?_
  refine RE.sqN ?_
  refine RC.block ?_
  -- stops: loop
  have hS := hS.nilOwn (T := 3) (sz := 1)
  refine RC.loop (γ := Nat × Value) (fun g E w' => E = [(6, .bool (pMinOk (l.drop g.1))), (5, .int .i64 (pMinId (l.drop g.1))), (4, .pointer (some ⟨bf, 0, none⟩)), (3, g.2)] ∧ g.1 ≤ l.length ∧ Sat oo w' [ownI g.2 (pIds (l.take g.1)), hO (.pointer (some ⟨bf, 0, none⟩)) n (l.drop g.1).tail, hO p n l, R]) (fun g => l.length - g.1) (0, .slice none 0 0) _ (by (repeat (first | exact Sub.nil | refine Sub.cons rfl ?_))) ⟨rfl, by simp, hS⟩ ?_
  clear hS
  rintro ⟨k, v⟩ E w ⟨rfl, hk, hS⟩
  dsimp only at hk hS
  refine RC.seq ?_
  refine RC.seq ?_
  refine RC.region rfl ?_
  refine RL.q (Qt.mv rfl) ?_
  refine RL.nil ?_
  refine RE.sqN ?_
  -- stops: cond
  refine RC.cond rfl (fun h => ?_) (fun h => ?_)
  · skip
    have hlt : k < l.length := by
      rcases Nat.lt_or_ge k l.length with h1 | h1
      · exact h1
      · rw [List.drop_of_length_le h1] at h; cases h
    have hd : l.drop k = l[k] :: l.drop (k + 1) := List.drop_eq_getElem_cons hlt
    have htk : pIds (l.take (k + 1)) = pIds (l.take k) ++ [l[k].id] := by rw [pIds, List.take_succ_eq_append_getElem hlt, List.map_append]; rfl
    have hkl : (pIds (l.take k)).length = k := by simp [pIds]; omega
    obtain ⟨sp, cap, rfl⟩ := hS.ownForm 0 rfl
    rw [hd] at hS ⊢
    refine RC.skip ?_
    refine RE.sqN ?_
    refine RC.seq ?_
    refine RC.block ?_
    refine RC.region rfl ?_
    refine RL.q (Qt.mv rfl) ?_
    refine RL.q (Qt.mv rfl) ?_
    refine RL.e (Ef.bsl1 hS rfl) ?_
    rintro _ w ⟨b22, rfl, hS⟩
    try simp (disch := omega) only [cells_int'] at hS
    first | refine RL.e (Ef.app (k := 1) hS rfl rfl rfl (Src.pt (hS.get 0 rfl) (by first | exact Nat.le_of_ble_eq_true rfl | omega | (simp only [Array.size_map]; omega))) (by first | assumption | omega | (dsimp only; omega)) (by first | rfl | simp)) ?_ | refine RL.e (Ef.app (k := 1) hS rfl rfl rfl (Src.pt (hS.get 1 rfl) (by first | exact Nat.le_of_ble_eq_true rfl | omega | (simp only [Array.size_map]; omega))) (by first | assumption | omega | (dsimp only; omega)) (by first | rfl | simp)) ?_ | refine RL.e (Ef.app (k := 1) hS rfl rfl rfl (Src.pt (hS.get 2 rfl) (by first | exact Nat.le_of_ble_eq_true rfl | omega | (simp only [Array.size_map]; omega))) (by first | assumption | omega | (dsimp only; omega)) (by first | rfl | simp)) ?_ | refine RL.e (Ef.app (k := 1) hS rfl rfl rfl (Src.pt (hS.get 3 rfl) (by first | exact Nat.le_of_ble_eq_true rfl | omega | (simp only [Array.size_map]; omega))) (by first | assumption | omega | (dsimp only; omega)) (by first | rfl | simp)) ?_ | refine RL.e (Ef.app (k := 1) hS rfl rfl rfl (Src.pt (hS.get 4 rfl) (by first | exact Nat.le_of_ble_eq_true rfl | omega | (simp only [Array.size_map]; omega))) (by first | assumption | omega | (dsimp only; omega)) (by first | rfl | simp)) ?_ | refine RL.e (Ef.app (k := 1) hS rfl rfl rfl (Src.own hS 0 rfl) (by first | assumption | omega | (dsimp only; omega)) (by first | rfl | simp)) ?_ | refine RL.e (Ef.app (k := 1) hS rfl rfl rfl (Src.own hS 1 rfl) (by first | assumption | omega | (dsimp only; omega)) (by first | rfl | simp)) ?_ | refine RL.e (Ef.app (k := 1) hS rfl rfl rfl (Src.own hS 2 rfl) (by first | assumption | omega | (dsimp only; omega)) (by first | rfl | simp)) ?_ | refine RL.e (Ef.app (k := 1) hS rfl rfl rfl (Src.own hS 3 rfl) (by first | assumption | omega | (dsimp only; omega)) (by first | rfl | simp)) ?_ | refine RL.e (Ef.app (k := 1) hS rfl rfl rfl (Src.own hS 4 rfl) (by first | assumption | omega | (dsimp only; omega)) (by first | rfl | simp)) ?_
    intro s23 w hS
    simp only [List.set_cons_zero, List.set_cons_succ, List.drop_zero] at hS
    first | (obtain ⟨sp23, cp23, rfl⟩ := hS.ownForm 1 rfl)
    refine RL.q (Qt.as rfl) ?_
    refine RL.nil ?_
    refine RE.bkN ?_
    refine RE.sqN ?_
    refine RC.region rfl ?_
    refine RL.q (Qt.mv rfl) ?_
    -- stops: op call
    refine RL.e (Ef.call hS (phTake _ n (l.drop (k + 1))) rfl rfl Try.call39 [2] [0, 1, 3, 4] (by decide) rfl rfl) ?_
    rintro v17 w ⟨ps, ⟨rfl, rfl⟩, hS⟩
    refine RL.q (Qt.mv rfl) ?_
    refine RL.q (Qt.ext rfl rfl) ?_
    refine RL.q (Qt.ext rfl rfl) ?_
    refine RL.q (Qt.as rfl) ?_
    refine RL.q (Qt.as rfl) ?_
    refine RL.nil ?_
    -- stops: next
    apply RE.lpN ((k + 1, .slice sp23 ((pIds (l.take k)).length + 1) cp23))
    case hI =>
      refine ⟨rfl, hlt, ?_⟩
      dsimp only
      unfold ownI
      rw [htk, List.length_append, List.length_singleton, ints, List.map_append]
      exact hS.pick [2, 0, 3, 4] (by decide) rfl
    case hs => (repeat (first | exact Sub.nil | refine Sub.cons rfl ?_))
    case hm =>
      show l.length - (k + 1) < l.length - k
      omega
  · refine RC.exit ?_
    refine RE.sqX ?_
    refine RE.lpX ?_
    refine RE.bkX ?_
    refine RE.sqN ?_
    refine RC.seq ?_
    refine RC.region rfl ?_
    refine RL.q (Qt.mv rfl) ?_
    refine RL.q (Qt.as rfl) ?_
    refine RL.nil ?_
    refine RE.sqN ?_
    refine RC.ret ?_
    -- stops: end ret
    have hge : l.length ≤ k := by
      rcases Nat.lt_or_ge k l.length with h1 | h1
      · rw [List.drop_eq_getElem_cons h1] at h; cases h
      · exact h1
    rw [List.take_of_length_le hge] at hS
    exact RE.retB rfl rfl (hS.pick [0, 2, 3] (by decide) rfl)
end Go.Proofs

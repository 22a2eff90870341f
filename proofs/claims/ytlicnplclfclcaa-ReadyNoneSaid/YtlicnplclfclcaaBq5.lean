/- The queue of levels: at and List. -/
import Derived.Test.YtlicnplclfclcaaBq4
import Derived.Test.YtlicnplclfclcaaGxR
import Derived.Test.YtlicnplclfclcaaOutI
namespace Go.Proofs
open Go Go.Gx
variable {oo : World}

theorem Seg.behindAt {q : BQ} : ∀ {s : List Int} {p nx : Int}, Seg q p s nx → ∀ (k : Nat) (hk : k < s.length), q.behind s[k] = (s.drop (k + 1)).headD nx
  | [], _, _, _, _, hk => by simp at hk
  | a :: t, p, nx, ⟨_, h2, _⟩, 0, _ => by simpa using h2
  | a :: t, p, nx, ⟨_, _, h3⟩, k + 1, hk => by
    have := Seg.behindAt h3 k (by simpa using hk)
    simpa using this

set_option maxHeartbeats 1000000 in
theorem bqAt (p : Value) (lv : Int) : Ct Try.prog 133 #[p, .int .u8 lv] [] (fun v ps => ∃ b1 b2, v = .func (.func 147) #[] #[.pointer (some ⟨b1, 0, none⟩), .pointer (some ⟨b2, 0, none⟩)] ∧ ps = [pt b1 (.cells p.cells 126 (0, 0)), pt b2 (.cells #[.int .u8 lv] 5 (0, 0))]) := by
  refine Ct.enter Try.func133 rfl (Nat.le_of_ble_eq_true rfl) ?_
  intro oo w R hS
  change RC _ _ _ _ _ _ [(0, _), (1, _)] _
  refine RC.seq ?_
  refine RC.region rfl ?_
  refine RL.e (Ef.box hS rfl) ?_
  rintro _ w ⟨b2, rfl, hS⟩
  try simp (disch := omega) only [List.set_cons_zero, List.set_cons_succ, cells_int, cells_bool, cells_ptr, cells_slice, cells_func, cells_agg, cells_map, cells_int', cells_bool', cells_ptr', cells_slice', cells_agg', cells_map', cells_func', Nat.zero_add, wr, List.setIfInBounds_toArray] at hS
  refine RL.e (Ef.box hS rfl) ?_
  rintro _ w ⟨b3, rfl, hS⟩
  try simp (disch := omega) only [cells_int'] at hS
  refine RL.q (Qt.as rfl) ?_
  refine RL.nil ?_
  refine RE.sqN ?_
  refine RC.seq ?_
  refine RC.region rfl ?_
  refine RL.q (Qt.mkf2 rfl rfl) ?_
  refine RL.q (Qt.as rfl) ?_
  refine RL.nil ?_
  refine RE.sqN ?_
  refine RC.ret ?_
  -- stops: end ret
  exact RE.retB rfl ⟨b2, b3, rfl, rfl⟩ (hS.pick [1, 0, 2] (by decide) rfl)

set_option maxHeartbeats 1000000 in
theorem bqAt1 (b n : Nat) (l : List RItem) (lv : Int) (hlv : 0 ≤ lv ∧ lv ≤ 255) (b1 b2 : Nat) : It Try.prog 147 #[.pointer (some ⟨b1, 0, none⟩), .pointer (some ⟨b2, 0, none⟩)]
    [pt b1 (.cells #[.pointer (some ⟨b, 0, none⟩)] 126 (0, 0)), pt b2 (.cells #[.int .u8 lv] 5 (0, 0)), qO (.pointer (some ⟨b, 0, none⟩)) n l] ((rIds l lv).map fun i => #[.int .i64 i]) := by
  refine It.enter Try.func147 rfl (Nat.le_of_ble_eq_true rfl) ?_
  intro oo lY J X w hY hS
  change RC _ _ _ _ _ _ [(0, _), (1, _), (2, _)] _
  refine RC.seq ?_
  refine RC.seq ?_
  refine RC.region rfl ?_
  refine RL.q (Qt.ld rfl (by first | exact hS.at 0 rfl | exact hS.at 1 rfl | exact hS.at 2 rfl | exact hS.at 3 rfl) (by first  | rfl)) ?_
  refine RL.q (Qt.eqlN rfl rfl) ?_
  refine RL.nil ?_
  refine RE.sqN ?_
  -- stops: cond
  have hS0 := hS
  obtain ⟨q, W, b', bl, cap, c, cl, hp, hq, hS⟩ := qO_open (hS.pick [2, 0, 1, 3] (by decide) rfl)
  cases hp
  refine RC.condF rfl (rfl) ?_
  refine RC.skip ?_
  refine RE.sqN ?_
  refine RC.seq ?_
  refine RC.drawn 7 [0, 1, 2, 3, 4, 5, 6] (Same _) (by kernel_rfl) (by kernel_rfl) Same.drew (fun hh => ?_)
  replace hS := hS.drew
  refine RH.q hh (Calm.sq Calm.body) rfl (by kernel_rfl) (Qt.ld rfl (by first | exact hS.at 0 rfl | exact hS.at 1 rfl | exact hS.at 2 rfl | exact hS.at 3 rfl | exact hS.at 4 rfl) (by first | exact hq.qc.first _ hlv.1 hlv.2 | rfl)) ?_
  refine RH.q hh (Calm.sq Calm.body) rfl (by kernel_rfl) (Qt.ld rfl (by first | exact hS.at 0 rfl | exact hS.at 1 rfl | exact hS.at 2 rfl | exact hS.at 3 rfl | exact hS.at 4 rfl) (by first | exact hq.qc.first _ hlv.1 hlv.2 | rfl)) ?_
  refine RH.q hh (Calm.sq Calm.body) rfl (by kernel_rfl) (Qt.nil rfl) ?_
  refine RH.q hh (Calm.sq Calm.body) rfl (by kernel_rfl) (Qt.fld rfl) ?_
  refine RH.q hh (Calm.sq Calm.body) rfl (by kernel_rfl) (Qt.ixA rfl rfl (by first | assumption | omega | (dsimp only; omega)) (by first | assumption | omega | (dsimp only; omega))) ?_
  refine RH.q hh (Calm.sq Calm.body) rfl (by kernel_rfl) (Qt.ld rfl (by first | exact hS.at 0 rfl | exact hS.at 1 rfl | exact hS.at 2 rfl | exact hS.at 3 rfl | exact hS.at 4 rfl) (by first | exact hq.qc.first _ hlv.1 hlv.2 | rfl)) ?_
  refine RH.q hh (Calm.sq Calm.body) rfl (by kernel_rfl) (Qt.as rfl) ?_
  refine RH.done hh (by kernel_rfl) ?_
  refine RL.nil ?_
  refine RE.sqN ?_
  refine RC.block ?_
  -- stops: loop
  rw [(hq.ri.seg lv hlv.1 hlv.2).2.1]
  refine RC.loop (γ := Nat) (fun k E w' => E = [(4, .int .i64 (((rIds l lv).drop k).headD (-1))), (0, .func (.yield lY) #[] #[]), (1, .pointer (some ⟨b1, 0, none⟩)), (2, .pointer (some ⟨b2, 0, none⟩))] ∧ Sat oo w' [pt b1 (.cells #[.pointer (some ⟨b, 0, none⟩)] 126 (0, 0)), pt b2 (.cells #[.int .u8 lv] 5 (0, 0)), qO (.pointer (some ⟨b, 0, none⟩)) n l, J k] ∧ k ≤ (rIds l lv).length) (fun k => (rIds l lv).length - k) 0 _ (by (repeat (first | exact Sub.nil | refine Sub.cons rfl ?_))) ⟨rfl, hS0.drew, by omega⟩ ?_
  clear hS hS0 hq
  rintro k E w ⟨rfl, hS, hk⟩
  have hnn : ∀ a ∈ rIds l lv, 0 ≤ a ∧ a < n := by
    obtain ⟨_, _, _, _, _, _, _, _, hq, _⟩ := qO_open (hS.pick [2, 0, 1, 3] (by decide) rfl)
    exact fun a ha => hq.ri.ids_nonneg ha
  refine RC.seq ?_
  refine RC.seq ?_
  refine RC.region rfl ?_
  refine RL.q (Qt.mv rfl) ?_
  refine RL.q (Qt.neq rfl rfl) ?_
  refine RL.q (Qt.mv rfl) ?_
  -- stops: guard
  by_cases hlt : k < (rIds l lv).length
  · have hd : (rIds l lv).drop k = (rIds l lv)[k] :: (rIds l lv).drop (k + 1) := List.drop_eq_getElem_cons hlt
    have hid := hnn _ (List.getElem_mem hlt)
    rw [hd, List.headD_cons]
    have hne : decide ((rIds l lv)[k] ≠ -1) = true := by simp; omega
    have hyk := hY k (by simpa using hlt) w hS
    rw [List.getElem_map] at hyk
    refine RL.q (Qt.mv rfl) ?_ (Runs.guard rfl rfl rfl (hne))
    refine RL.q (Qt.mv rfl) ?_ (Runs.guard rfl rfl rfl (hne))
    -- stops: op call
    refine RL.e (Ef.yield rfl rfl hyk) ?_ (Runs.guard rfl rfl rfl hne)
    rintro v18 w hv
    rcases hv with ⟨rfl, hS⟩ | ⟨rfl, hS⟩
    · skip
      refine RL.q ((by first | exact Qt.pickT rfl (by assumption) rfl | exact Qt.pickF rfl (by assumption) rfl | exact Qt.pickT rfl rfl rfl | exact Qt.pickF rfl rfl rfl)) ?_
      refine RL.nil ?_
      refine RE.sqN ?_
      -- stops: cond
      have hS0 := hS
      obtain ⟨q, W, b', bl, cap, c, cl, hp, hq, hS⟩ := qO_open (hS.pick [2, 0, 1, 3] (by decide) rfl)
      cases hp
      refine RC.condT rfl (rfl) ?_
      refine RC.skip ?_
      refine RE.sqN ?_
      refine RC.seq ?_
      refine RC.block ?_
      refine RC.skip ?_
      refine RE.bkN ?_
      refine RE.sqN ?_
      refine RC.region rfl ?_
      refine RL.q (Qt.ld rfl (by first | exact hS.at 0 rfl | exact hS.at 1 rfl | exact hS.at 2 rfl | exact hS.at 3 rfl | exact hS.at 4 rfl) (by first | exact hq.qc.links | exact hq.la.behind _ (by omega) (by omega) | rfl)) ?_
      refine RL.q (Qt.nil rfl) ?_
      refine RL.q (Qt.fld rfl) ?_
      refine RL.q (Qt.ld rfl (by first | exact hS.at 0 rfl | exact hS.at 1 rfl | exact hS.at 2 rfl | exact hS.at 3 rfl | exact hS.at 4 rfl) (by first | exact hq.qc.links | exact hq.la.behind _ (by omega) (by omega) | rfl)) ?_
      refine RL.q (Qt.mv rfl) ?_
      refine RL.q (Qt.ixS rfl rfl (by first | assumption | omega | (dsimp only; omega)) (by first | assumption | omega | (dsimp only; omega))) ?_
      refine RL.q (Qt.fld rfl) ?_
      refine RL.q (Qt.ld rfl (by first | exact hS.at 0 rfl | exact hS.at 1 rfl | exact hS.at 2 rfl | exact hS.at 3 rfl | exact hS.at 4 rfl) (by first | exact hq.qc.links | exact hq.la.behind _ (by omega) (by omega) | rfl)) ?_
      refine RL.q (Qt.as rfl) ?_
      refine RL.nil ?_
      -- stops: next
      rw [Seg.behindAt (hq.ri.seg lv hlv.1 hlv.2).1 k hlt]
      apply RE.lpN (k + 1)
      case hI => exact ⟨rfl, hS0, hlt⟩
      case hs => (repeat (first | exact Sub.nil | refine Sub.cons rfl ?_))
      case hm =>
        show (rIds l lv).length - (k + 1) < (rIds l lv).length - k
        omega
    · skip
      refine RL.q ((by first | exact Qt.pickT rfl (by assumption) rfl | exact Qt.pickF rfl (by assumption) rfl | exact Qt.pickT rfl rfl rfl | exact Qt.pickF rfl rfl rfl)) ?_
      refine RL.nil ?_
      refine RE.sqN ?_
      -- stops: cond
      refine RC.condF rfl (rfl) ?_
      refine RC.exit ?_
      refine RE.sqX ?_
      refine RE.lpX ?_
      refine RE.bkX ?_
      -- stops: end normal
      exact RE.endI rfl (.inr hS)
  · have hd : (rIds l lv).drop k = [] := List.drop_eq_nil_of_le (by omega)
    have hkn : k = ((rIds l lv).map fun i => #[Value.int .i64 i]).length := by simp; omega
    rw [hd, List.headD_nil]
    refine RL.s (Skips.guard rfl rfl rfl (rfl)) ?_
    refine RL.s (Skips.guard rfl rfl rfl (rfl)) ?_
    refine RL.s (Skips.guard rfl rfl rfl (rfl)) ?_
    refine RL.q ((by first | exact Qt.pickT rfl (by assumption) rfl | exact Qt.pickF rfl (by assumption) rfl | exact Qt.pickT rfl rfl rfl | exact Qt.pickF rfl rfl rfl)) ?_
    refine RL.nil ?_
    refine RE.sqN ?_
    -- stops: cond
    refine RC.condF rfl (rfl) ?_
    refine RC.exit ?_
    refine RE.sqX ?_
    refine RE.lpX ?_
    refine RE.bkX ?_
    -- stops: end normal
    rw [hkn] at hS
    exact RE.endI rfl (.inl hS)

/-- The slice that a loop fills, in its box. -/
def outP (b : Nat) (T : Nat) (l : List Int) : HP := fun F => ∃ v, Star [pt b (.cells #[v] T (0, 0)), ownI v l] F
theorem outP_open {w : World} {L : List HP} {b T : Nat} {l : List Int} (h : Sat oo w (outP b T l :: L)) : ∃ sp cap, Sat oo w (pt b (.cells #[.slice sp l.length cap] T (0, 0)) :: ownI (.slice sp l.length cap) l :: L) := by
  obtain ⟨v, h⟩ := h.ex 0 rfl (q := fun v F => Star [pt b (.cells #[v] T (0, 0)), ownI v l] F) (fun F h => h)
  have h1 := h.unstar
  obtain ⟨sp, cap, rfl⟩ := h1.ownForm 1 rfl
  exact ⟨sp, cap, h1⟩
theorem outP_shut {w : World} {L : List HP} {b T : Nat} {l : List Int} {v : Value} (h : Sat oo w (pt b (.cells #[v] T (0, 0)) :: ownI v l :: L)) : Sat oo w (outP b T l :: L) := by
  have h1 := Sat.star (B := [pt b (.cells #[v] T (0, 0)), ownI v l]) (L := L) h
  exact h1.imp 0 rfl (fun F hF => ⟨v, hF⟩)

set_option maxHeartbeats 1000000 in
theorem bqList (b n : Nat) (l : List RItem) (lv : Int) (hlv : 0 ≤ lv ∧ lv ≤ 255) (hlen : (rIds l lv).length ≤ 1000000) : Ct Try.prog 99 #[.pointer (some ⟨b, 0, none⟩), .int .u8 lv] [qO (.pointer (some ⟨b, 0, none⟩)) n l] (fun v ps => ps = [ownI v (rIds l lv), qO (.pointer (some ⟨b, 0, none⟩)) n l]) := by
  refine Ct.enter Try.func99 rfl (Nat.le_of_ble_eq_true rfl) ?_
  intro oo w R hS
  change RC _ _ _ _ _ _ [(0, _), (1, _)] _
  refine RC.seq ?_
  refine RC.region rfl ?_
  refine RL.q (Qt.as rfl) ?_
  refine RL.nil ?_
  refine RE.sqN ?_
  refine RC.seq ?_
  refine RC.region rfl ?_
  refine RL.e (Ef.alloc hS) ?_
  rintro _ w ⟨b5, rfl, hS⟩
  try simp (disch := omega) only [cells_slice'] at hS
  refine RL.nil ?_
  refine RE.sqN ?_
  refine RC.seq ?_
  refine RC.seq ?_
  refine RC.region rfl ?_
  refine RL.q (Qt.mv rfl) ?_
  refine RL.q (Qt.mv rfl) ?_
  -- stops: op call
  refine RL.e (Ef.call hS (bqAt (.pointer (some ⟨b, 0, none⟩)) lv) rfl rfl Try.call133 [] [0, 1, 2] (by decide) rfl rfl) ?_
  rintro v9 w ⟨ps, ⟨b1, b2, rfl, rfl⟩, hS⟩
  refine RL.nil ?_
  refine RE.sqN ?_
  refine RC.block ?_
  -- stops: rangeFunc
  have hS := outP_shut (l := []) ((hS.nilOwn (T := 3) (sz := 1)).pick [3, 0, 1, 2, 4, 5] (by decide) rfl)
  refine RC.rangeFn hS (bqAt1 b n l lv hlv b1 b2) rfl Try.call147 [1, 2, 3] [0, 4] (by decide) rfl rfl (by simp) (by decide) (fun k => [outP b5 28 ((rIds l lv).take k), R]) (by simp) (fun _ _ => False) ?_ ?_ (fun _ _ _ _ h => h.elim)
  · intro k hk l' b' r w hr hS
    have hlt : k < (rIds l lv).length := by simpa using hk
    have htk : (rIds l lv).take (k + 1) = (rIds l lv).take k ++ [(rIds l lv)[k]] := List.take_succ_eq_append_getElem hlt
    rw [List.getElem_map]
    change RC _ _ _ _ _ _ ((10, .int .i64 (rIds l lv)[k]) :: _) _
    obtain ⟨sp, cp, hS⟩ := outP_open (hS.pick [3, 0, 1, 2, 4, 5, 6] (by decide) rfl)
    have hkl : ((rIds l lv).take k).length = k := by simp; omega
    refine RC.region rfl ?_
    refine RL.q (Qt.as rfl) ?_
    refine RL.nil ?_
    refine RE.begin (k := 7) hS rfl hr.1 (fun w hS => ?_)
    simp only [List.set_cons_zero, List.set_cons_succ] at hS
    refine RC.block ?_
    refine RC.region rfl ?_
    refine RL.q (Qt.ld rfl (by first | exact hS.at 0 rfl | exact hS.at 1 rfl | exact hS.at 2 rfl | exact hS.at 3 rfl | exact hS.at 4 rfl | exact hS.at 5 rfl | exact hS.at 6 rfl | exact hS.at 7 rfl) (by first  | rfl)) ?_
    refine RL.q (Qt.mv rfl) ?_
    refine RL.e (Ef.bsl1 hS rfl) ?_
    rintro _ w ⟨b13, rfl, hS⟩
    try simp (disch := omega) only [cells_int'] at hS
    first | refine RL.e (Ef.app (k := 0) hS rfl rfl rfl (Src.pt (hS.get 0 rfl) (by first | exact Nat.le_of_ble_eq_true rfl | omega | (simp only [Array.size_map]; omega))) (by first | assumption | omega | (dsimp only; omega)) (by first | rfl | simp)) ?_ | refine RL.e (Ef.app (k := 0) hS rfl rfl rfl (Src.pt (hS.get 1 rfl) (by first | exact Nat.le_of_ble_eq_true rfl | omega | (simp only [Array.size_map]; omega))) (by first | assumption | omega | (dsimp only; omega)) (by first | rfl | simp)) ?_ | refine RL.e (Ef.app (k := 0) hS rfl rfl rfl (Src.pt (hS.get 2 rfl) (by first | exact Nat.le_of_ble_eq_true rfl | omega | (simp only [Array.size_map]; omega))) (by first | assumption | omega | (dsimp only; omega)) (by first | rfl | simp)) ?_ | refine RL.e (Ef.app (k := 0) hS rfl rfl rfl (Src.pt (hS.get 3 rfl) (by first | exact Nat.le_of_ble_eq_true rfl | omega | (simp only [Array.size_map]; omega))) (by first | assumption | omega | (dsimp only; omega)) (by first | rfl | simp)) ?_ | refine RL.e (Ef.app (k := 0) hS rfl rfl rfl (Src.pt (hS.get 4 rfl) (by first | exact Nat.le_of_ble_eq_true rfl | omega | (simp only [Array.size_map]; omega))) (by first | assumption | omega | (dsimp only; omega)) (by first | rfl | simp)) ?_ | refine RL.e (Ef.app (k := 0) hS rfl rfl rfl (Src.pt (hS.get 5 rfl) (by first | exact Nat.le_of_ble_eq_true rfl | omega | (simp only [Array.size_map]; omega))) (by first | assumption | omega | (dsimp only; omega)) (by first | rfl | simp)) ?_ | refine RL.e (Ef.app (k := 0) hS rfl rfl rfl (Src.pt (hS.get 6 rfl) (by first | exact Nat.le_of_ble_eq_true rfl | omega | (simp only [Array.size_map]; omega))) (by first | assumption | omega | (dsimp only; omega)) (by first | rfl | simp)) ?_ | refine RL.e (Ef.app (k := 0) hS rfl rfl rfl (Src.pt (hS.get 7 rfl) (by first | exact Nat.le_of_ble_eq_true rfl | omega | (simp only [Array.size_map]; omega))) (by first | assumption | omega | (dsimp only; omega)) (by first | rfl | simp)) ?_ | refine RL.e (Ef.app (k := 0) hS rfl rfl rfl (Src.pt (hS.get 8 rfl) (by first | exact Nat.le_of_ble_eq_true rfl | omega | (simp only [Array.size_map]; omega))) (by first | assumption | omega | (dsimp only; omega)) (by first | rfl | simp)) ?_ | refine RL.e (Ef.app (k := 0) hS rfl rfl rfl (Src.own hS 0 rfl) (by first | assumption | omega | (dsimp only; omega)) (by first | rfl | simp)) ?_ | refine RL.e (Ef.app (k := 0) hS rfl rfl rfl (Src.own hS 1 rfl) (by first | assumption | omega | (dsimp only; omega)) (by first | rfl | simp)) ?_ | refine RL.e (Ef.app (k := 0) hS rfl rfl rfl (Src.own hS 2 rfl) (by first | assumption | omega | (dsimp only; omega)) (by first | rfl | simp)) ?_ | refine RL.e (Ef.app (k := 0) hS rfl rfl rfl (Src.own hS 3 rfl) (by first | assumption | omega | (dsimp only; omega)) (by first | rfl | simp)) ?_ | refine RL.e (Ef.app (k := 0) hS rfl rfl rfl (Src.own hS 4 rfl) (by first | assumption | omega | (dsimp only; omega)) (by first | rfl | simp)) ?_ | refine RL.e (Ef.app (k := 0) hS rfl rfl rfl (Src.own hS 5 rfl) (by first | assumption | omega | (dsimp only; omega)) (by first | rfl | simp)) ?_ | refine RL.e (Ef.app (k := 0) hS rfl rfl rfl (Src.own hS 6 rfl) (by first | assumption | omega | (dsimp only; omega)) (by first | rfl | simp)) ?_ | refine RL.e (Ef.app (k := 0) hS rfl rfl rfl (Src.own hS 7 rfl) (by first | assumption | omega | (dsimp only; omega)) (by first | rfl | simp)) ?_ | refine RL.e (Ef.app (k := 0) hS rfl rfl rfl (Src.own hS 8 rfl) (by first | assumption | omega | (dsimp only; omega)) (by first | rfl | simp)) ?_ | refine RL.e (Ef.app (k := 1) hS rfl rfl rfl (Src.pt (hS.get 0 rfl) (by first | exact Nat.le_of_ble_eq_true rfl | omega | (simp only [Array.size_map]; omega))) (by first | assumption | omega | (dsimp only; omega)) (by first | rfl | simp)) ?_ | refine RL.e (Ef.app (k := 1) hS rfl rfl rfl (Src.pt (hS.get 1 rfl) (by first | exact Nat.le_of_ble_eq_true rfl | omega | (simp only [Array.size_map]; omega))) (by first | assumption | omega | (dsimp only; omega)) (by first | rfl | simp)) ?_ | refine RL.e (Ef.app (k := 1) hS rfl rfl rfl (Src.pt (hS.get 2 rfl) (by first | exact Nat.le_of_ble_eq_true rfl | omega | (simp only [Array.size_map]; omega))) (by first | assumption | omega | (dsimp only; omega)) (by first | rfl | simp)) ?_ | refine RL.e (Ef.app (k := 1) hS rfl rfl rfl (Src.pt (hS.get 3 rfl) (by first | exact Nat.le_of_ble_eq_true rfl | omega | (simp only [Array.size_map]; omega))) (by first | assumption | omega | (dsimp only; omega)) (by first | rfl | simp)) ?_ | refine RL.e (Ef.app (k := 1) hS rfl rfl rfl (Src.pt (hS.get 4 rfl) (by first | exact Nat.le_of_ble_eq_true rfl | omega | (simp only [Array.size_map]; omega))) (by first | assumption | omega | (dsimp only; omega)) (by first | rfl | simp)) ?_ | refine RL.e (Ef.app (k := 1) hS rfl rfl rfl (Src.pt (hS.get 5 rfl) (by first | exact Nat.le_of_ble_eq_true rfl | omega | (simp only [Array.size_map]; omega))) (by first | assumption | omega | (dsimp only; omega)) (by first | rfl | simp)) ?_ | refine RL.e (Ef.app (k := 1) hS rfl rfl rfl (Src.pt (hS.get 6 rfl) (by first | exact Nat.le_of_ble_eq_true rfl | omega | (simp only [Array.size_map]; omega))) (by first | assumption | omega | (dsimp only; omega)) (by first | rfl | simp)) ?_ | refine RL.e (Ef.app (k := 1) hS rfl rfl rfl (Src.pt (hS.get 7 rfl) (by first | exact Nat.le_of_ble_eq_true rfl | omega | (simp only [Array.size_map]; omega))) (by first | assumption | omega | (dsimp only; omega)) (by first | rfl | simp)) ?_ | refine RL.e (Ef.app (k := 1) hS rfl rfl rfl (Src.pt (hS.get 8 rfl) (by first | exact Nat.le_of_ble_eq_true rfl | omega | (simp only [Array.size_map]; omega))) (by first | assumption | omega | (dsimp only; omega)) (by first | rfl | simp)) ?_ | refine RL.e (Ef.app (k := 1) hS rfl rfl rfl (Src.own hS 0 rfl) (by first | assumption | omega | (dsimp only; omega)) (by first | rfl | simp)) ?_ | refine RL.e (Ef.app (k := 1) hS rfl rfl rfl (Src.own hS 1 rfl) (by first | assumption | omega | (dsimp only; omega)) (by first | rfl | simp)) ?_ | refine RL.e (Ef.app (k := 1) hS rfl rfl rfl (Src.own hS 2 rfl) (by first | assumption | omega | (dsimp only; omega)) (by first | rfl | simp)) ?_ | refine RL.e (Ef.app (k := 1) hS rfl rfl rfl (Src.own hS 3 rfl) (by first | assumption | omega | (dsimp only; omega)) (by first | rfl | simp)) ?_ | refine RL.e (Ef.app (k := 1) hS rfl rfl rfl (Src.own hS 4 rfl) (by first | assumption | omega | (dsimp only; omega)) (by first | rfl | simp)) ?_ | refine RL.e (Ef.app (k := 1) hS rfl rfl rfl (Src.own hS 5 rfl) (by first | assumption | omega | (dsimp only; omega)) (by first | rfl | simp)) ?_ | refine RL.e (Ef.app (k := 1) hS rfl rfl rfl (Src.own hS 6 rfl) (by first | assumption | omega | (dsimp only; omega)) (by first | rfl | simp)) ?_ | refine RL.e (Ef.app (k := 1) hS rfl rfl rfl (Src.own hS 7 rfl) (by first | assumption | omega | (dsimp only; omega)) (by first | rfl | simp)) ?_ | refine RL.e (Ef.app (k := 1) hS rfl rfl rfl (Src.own hS 8 rfl) (by first | assumption | omega | (dsimp only; omega)) (by first | rfl | simp)) ?_ | refine RL.e (Ef.app (k := 2) hS rfl rfl rfl (Src.pt (hS.get 0 rfl) (by first | exact Nat.le_of_ble_eq_true rfl | omega | (simp only [Array.size_map]; omega))) (by first | assumption | omega | (dsimp only; omega)) (by first | rfl | simp)) ?_ | refine RL.e (Ef.app (k := 2) hS rfl rfl rfl (Src.pt (hS.get 1 rfl) (by first | exact Nat.le_of_ble_eq_true rfl | omega | (simp only [Array.size_map]; omega))) (by first | assumption | omega | (dsimp only; omega)) (by first | rfl | simp)) ?_ | refine RL.e (Ef.app (k := 2) hS rfl rfl rfl (Src.pt (hS.get 2 rfl) (by first | exact Nat.le_of_ble_eq_true rfl | omega | (simp only [Array.size_map]; omega))) (by first | assumption | omega | (dsimp only; omega)) (by first | rfl | simp)) ?_ | refine RL.e (Ef.app (k := 2) hS rfl rfl rfl (Src.pt (hS.get 3 rfl) (by first | exact Nat.le_of_ble_eq_true rfl | omega | (simp only [Array.size_map]; omega))) (by first | assumption | omega | (dsimp only; omega)) (by first | rfl | simp)) ?_ | refine RL.e (Ef.app (k := 2) hS rfl rfl rfl (Src.pt (hS.get 4 rfl) (by first | exact Nat.le_of_ble_eq_true rfl | omega | (simp only [Array.size_map]; omega))) (by first | assumption | omega | (dsimp only; omega)) (by first | rfl | simp)) ?_ | refine RL.e (Ef.app (k := 2) hS rfl rfl rfl (Src.pt (hS.get 5 rfl) (by first | exact Nat.le_of_ble_eq_true rfl | omega | (simp only [Array.size_map]; omega))) (by first | assumption | omega | (dsimp only; omega)) (by first | rfl | simp)) ?_ | refine RL.e (Ef.app (k := 2) hS rfl rfl rfl (Src.pt (hS.get 6 rfl) (by first | exact Nat.le_of_ble_eq_true rfl | omega | (simp only [Array.size_map]; omega))) (by first | assumption | omega | (dsimp only; omega)) (by first | rfl | simp)) ?_ | refine RL.e (Ef.app (k := 2) hS rfl rfl rfl (Src.pt (hS.get 7 rfl) (by first | exact Nat.le_of_ble_eq_true rfl | omega | (simp only [Array.size_map]; omega))) (by first | assumption | omega | (dsimp only; omega)) (by first | rfl | simp)) ?_ | refine RL.e (Ef.app (k := 2) hS rfl rfl rfl (Src.pt (hS.get 8 rfl) (by first | exact Nat.le_of_ble_eq_true rfl | omega | (simp only [Array.size_map]; omega))) (by first | assumption | omega | (dsimp only; omega)) (by first | rfl | simp)) ?_ | refine RL.e (Ef.app (k := 2) hS rfl rfl rfl (Src.own hS 0 rfl) (by first | assumption | omega | (dsimp only; omega)) (by first | rfl | simp)) ?_ | refine RL.e (Ef.app (k := 2) hS rfl rfl rfl (Src.own hS 1 rfl) (by first | assumption | omega | (dsimp only; omega)) (by first | rfl | simp)) ?_ | refine RL.e (Ef.app (k := 2) hS rfl rfl rfl (Src.own hS 2 rfl) (by first | assumption | omega | (dsimp only; omega)) (by first | rfl | simp)) ?_ | refine RL.e (Ef.app (k := 2) hS rfl rfl rfl (Src.own hS 3 rfl) (by first | assumption | omega | (dsimp only; omega)) (by first | rfl | simp)) ?_ | refine RL.e (Ef.app (k := 2) hS rfl rfl rfl (Src.own hS 4 rfl) (by first | assumption | omega | (dsimp only; omega)) (by first | rfl | simp)) ?_ | refine RL.e (Ef.app (k := 2) hS rfl rfl rfl (Src.own hS 5 rfl) (by first | assumption | omega | (dsimp only; omega)) (by first | rfl | simp)) ?_ | refine RL.e (Ef.app (k := 2) hS rfl rfl rfl (Src.own hS 6 rfl) (by first | assumption | omega | (dsimp only; omega)) (by first | rfl | simp)) ?_ | refine RL.e (Ef.app (k := 2) hS rfl rfl rfl (Src.own hS 7 rfl) (by first | assumption | omega | (dsimp only; omega)) (by first | rfl | simp)) ?_ | refine RL.e (Ef.app (k := 2) hS rfl rfl rfl (Src.own hS 8 rfl) (by first | assumption | omega | (dsimp only; omega)) (by first | rfl | simp)) ?_ | refine RL.e (Ef.app (k := 3) hS rfl rfl rfl (Src.pt (hS.get 0 rfl) (by first | exact Nat.le_of_ble_eq_true rfl | omega | (simp only [Array.size_map]; omega))) (by first | assumption | omega | (dsimp only; omega)) (by first | rfl | simp)) ?_ | refine RL.e (Ef.app (k := 3) hS rfl rfl rfl (Src.pt (hS.get 1 rfl) (by first | exact Nat.le_of_ble_eq_true rfl | omega | (simp only [Array.size_map]; omega))) (by first | assumption | omega | (dsimp only; omega)) (by first | rfl | simp)) ?_ | refine RL.e (Ef.app (k := 3) hS rfl rfl rfl (Src.pt (hS.get 2 rfl) (by first | exact Nat.le_of_ble_eq_true rfl | omega | (simp only [Array.size_map]; omega))) (by first | assumption | omega | (dsimp only; omega)) (by first | rfl | simp)) ?_ | refine RL.e (Ef.app (k := 3) hS rfl rfl rfl (Src.pt (hS.get 3 rfl) (by first | exact Nat.le_of_ble_eq_true rfl | omega | (simp only [Array.size_map]; omega))) (by first | assumption | omega | (dsimp only; omega)) (by first | rfl | simp)) ?_ | refine RL.e (Ef.app (k := 3) hS rfl rfl rfl (Src.pt (hS.get 4 rfl) (by first | exact Nat.le_of_ble_eq_true rfl | omega | (simp only [Array.size_map]; omega))) (by first | assumption | omega | (dsimp only; omega)) (by first | rfl | simp)) ?_ | refine RL.e (Ef.app (k := 3) hS rfl rfl rfl (Src.pt (hS.get 5 rfl) (by first | exact Nat.le_of_ble_eq_true rfl | omega | (simp only [Array.size_map]; omega))) (by first | assumption | omega | (dsimp only; omega)) (by first | rfl | simp)) ?_ | refine RL.e (Ef.app (k := 3) hS rfl rfl rfl (Src.pt (hS.get 6 rfl) (by first | exact Nat.le_of_ble_eq_true rfl | omega | (simp only [Array.size_map]; omega))) (by first | assumption | omega | (dsimp only; omega)) (by first | rfl | simp)) ?_ | refine RL.e (Ef.app (k := 3) hS rfl rfl rfl (Src.pt (hS.get 7 rfl) (by first | exact Nat.le_of_ble_eq_true rfl | omega | (simp only [Array.size_map]; omega))) (by first | assumption | omega | (dsimp only; omega)) (by first | rfl | simp)) ?_ | refine RL.e (Ef.app (k := 3) hS rfl rfl rfl (Src.pt (hS.get 8 rfl) (by first | exact Nat.le_of_ble_eq_true rfl | omega | (simp only [Array.size_map]; omega))) (by first | assumption | omega | (dsimp only; omega)) (by first | rfl | simp)) ?_ | refine RL.e (Ef.app (k := 3) hS rfl rfl rfl (Src.own hS 0 rfl) (by first | assumption | omega | (dsimp only; omega)) (by first | rfl | simp)) ?_ | refine RL.e (Ef.app (k := 3) hS rfl rfl rfl (Src.own hS 1 rfl) (by first | assumption | omega | (dsimp only; omega)) (by first | rfl | simp)) ?_ | refine RL.e (Ef.app (k := 3) hS rfl rfl rfl (Src.own hS 2 rfl) (by first | assumption | omega | (dsimp only; omega)) (by first | rfl | simp)) ?_ | refine RL.e (Ef.app (k := 3) hS rfl rfl rfl (Src.own hS 3 rfl) (by first | assumption | omega | (dsimp only; omega)) (by first | rfl | simp)) ?_ | refine RL.e (Ef.app (k := 3) hS rfl rfl rfl (Src.own hS 4 rfl) (by first | assumption | omega | (dsimp only; omega)) (by first | rfl | simp)) ?_ | refine RL.e (Ef.app (k := 3) hS rfl rfl rfl (Src.own hS 5 rfl) (by first | assumption | omega | (dsimp only; omega)) (by first | rfl | simp)) ?_ | refine RL.e (Ef.app (k := 3) hS rfl rfl rfl (Src.own hS 6 rfl) (by first | assumption | omega | (dsimp only; omega)) (by first | rfl | simp)) ?_ | refine RL.e (Ef.app (k := 3) hS rfl rfl rfl (Src.own hS 7 rfl) (by first | assumption | omega | (dsimp only; omega)) (by first | rfl | simp)) ?_ | refine RL.e (Ef.app (k := 3) hS rfl rfl rfl (Src.own hS 8 rfl) (by first | assumption | omega | (dsimp only; omega)) (by first | rfl | simp)) ?_ | refine RL.e (Ef.app (k := 4) hS rfl rfl rfl (Src.pt (hS.get 0 rfl) (by first | exact Nat.le_of_ble_eq_true rfl | omega | (simp only [Array.size_map]; omega))) (by first | assumption | omega | (dsimp only; omega)) (by first | rfl | simp)) ?_ | refine RL.e (Ef.app (k := 4) hS rfl rfl rfl (Src.pt (hS.get 1 rfl) (by first | exact Nat.le_of_ble_eq_true rfl | omega | (simp only [Array.size_map]; omega))) (by first | assumption | omega | (dsimp only; omega)) (by first | rfl | simp)) ?_ | refine RL.e (Ef.app (k := 4) hS rfl rfl rfl (Src.pt (hS.get 2 rfl) (by first | exact Nat.le_of_ble_eq_true rfl | omega | (simp only [Array.size_map]; omega))) (by first | assumption | omega | (dsimp only; omega)) (by first | rfl | simp)) ?_ | refine RL.e (Ef.app (k := 4) hS rfl rfl rfl (Src.pt (hS.get 3 rfl) (by first | exact Nat.le_of_ble_eq_true rfl | omega | (simp only [Array.size_map]; omega))) (by first | assumption | omega | (dsimp only; omega)) (by first | rfl | simp)) ?_ | refine RL.e (Ef.app (k := 4) hS rfl rfl rfl (Src.pt (hS.get 4 rfl) (by first | exact Nat.le_of_ble_eq_true rfl | omega | (simp only [Array.size_map]; omega))) (by first | assumption | omega | (dsimp only; omega)) (by first | rfl | simp)) ?_ | refine RL.e (Ef.app (k := 4) hS rfl rfl rfl (Src.pt (hS.get 5 rfl) (by first | exact Nat.le_of_ble_eq_true rfl | omega | (simp only [Array.size_map]; omega))) (by first | assumption | omega | (dsimp only; omega)) (by first | rfl | simp)) ?_ | refine RL.e (Ef.app (k := 4) hS rfl rfl rfl (Src.pt (hS.get 6 rfl) (by first | exact Nat.le_of_ble_eq_true rfl | omega | (simp only [Array.size_map]; omega))) (by first | assumption | omega | (dsimp only; omega)) (by first | rfl | simp)) ?_ | refine RL.e (Ef.app (k := 4) hS rfl rfl rfl (Src.pt (hS.get 7 rfl) (by first | exact Nat.le_of_ble_eq_true rfl | omega | (simp only [Array.size_map]; omega))) (by first | assumption | omega | (dsimp only; omega)) (by first | rfl | simp)) ?_ | refine RL.e (Ef.app (k := 4) hS rfl rfl rfl (Src.pt (hS.get 8 rfl) (by first | exact Nat.le_of_ble_eq_true rfl | omega | (simp only [Array.size_map]; omega))) (by first | assumption | omega | (dsimp only; omega)) (by first | rfl | simp)) ?_ | refine RL.e (Ef.app (k := 4) hS rfl rfl rfl (Src.own hS 0 rfl) (by first | assumption | omega | (dsimp only; omega)) (by first | rfl | simp)) ?_ | refine RL.e (Ef.app (k := 4) hS rfl rfl rfl (Src.own hS 1 rfl) (by first | assumption | omega | (dsimp only; omega)) (by first | rfl | simp)) ?_ | refine RL.e (Ef.app (k := 4) hS rfl rfl rfl (Src.own hS 2 rfl) (by first | assumption | omega | (dsimp only; omega)) (by first | rfl | simp)) ?_ | refine RL.e (Ef.app (k := 4) hS rfl rfl rfl (Src.own hS 3 rfl) (by first | assumption | omega | (dsimp only; omega)) (by first | rfl | simp)) ?_ | refine RL.e (Ef.app (k := 4) hS rfl rfl rfl (Src.own hS 4 rfl) (by first | assumption | omega | (dsimp only; omega)) (by first | rfl | simp)) ?_ | refine RL.e (Ef.app (k := 4) hS rfl rfl rfl (Src.own hS 5 rfl) (by first | assumption | omega | (dsimp only; omega)) (by first | rfl | simp)) ?_ | refine RL.e (Ef.app (k := 4) hS rfl rfl rfl (Src.own hS 6 rfl) (by first | assumption | omega | (dsimp only; omega)) (by first | rfl | simp)) ?_ | refine RL.e (Ef.app (k := 4) hS rfl rfl rfl (Src.own hS 7 rfl) (by first | assumption | omega | (dsimp only; omega)) (by first | rfl | simp)) ?_ | refine RL.e (Ef.app (k := 4) hS rfl rfl rfl (Src.own hS 8 rfl) (by first | assumption | omega | (dsimp only; omega)) (by first | rfl | simp)) ?_ | refine RL.e (Ef.app (k := 5) hS rfl rfl rfl (Src.pt (hS.get 0 rfl) (by first | exact Nat.le_of_ble_eq_true rfl | omega | (simp only [Array.size_map]; omega))) (by first | assumption | omega | (dsimp only; omega)) (by first | rfl | simp)) ?_ | refine RL.e (Ef.app (k := 5) hS rfl rfl rfl (Src.pt (hS.get 1 rfl) (by first | exact Nat.le_of_ble_eq_true rfl | omega | (simp only [Array.size_map]; omega))) (by first | assumption | omega | (dsimp only; omega)) (by first | rfl | simp)) ?_ | refine RL.e (Ef.app (k := 5) hS rfl rfl rfl (Src.pt (hS.get 2 rfl) (by first | exact Nat.le_of_ble_eq_true rfl | omega | (simp only [Array.size_map]; omega))) (by first | assumption | omega | (dsimp only; omega)) (by first | rfl | simp)) ?_ | refine RL.e (Ef.app (k := 5) hS rfl rfl rfl (Src.pt (hS.get 3 rfl) (by first | exact Nat.le_of_ble_eq_true rfl | omega | (simp only [Array.size_map]; omega))) (by first | assumption | omega | (dsimp only; omega)) (by first | rfl | simp)) ?_ | refine RL.e (Ef.app (k := 5) hS rfl rfl rfl (Src.pt (hS.get 4 rfl) (by first | exact Nat.le_of_ble_eq_true rfl | omega | (simp only [Array.size_map]; omega))) (by first | assumption | omega | (dsimp only; omega)) (by first | rfl | simp)) ?_ | refine RL.e (Ef.app (k := 5) hS rfl rfl rfl (Src.pt (hS.get 5 rfl) (by first | exact Nat.le_of_ble_eq_true rfl | omega | (simp only [Array.size_map]; omega))) (by first | assumption | omega | (dsimp only; omega)) (by first | rfl | simp)) ?_ | refine RL.e (Ef.app (k := 5) hS rfl rfl rfl (Src.pt (hS.get 6 rfl) (by first | exact Nat.le_of_ble_eq_true rfl | omega | (simp only [Array.size_map]; omega))) (by first | assumption | omega | (dsimp only; omega)) (by first | rfl | simp)) ?_ | refine RL.e (Ef.app (k := 5) hS rfl rfl rfl (Src.pt (hS.get 7 rfl) (by first | exact Nat.le_of_ble_eq_true rfl | omega | (simp only [Array.size_map]; omega))) (by first | assumption | omega | (dsimp only; omega)) (by first | rfl | simp)) ?_ | refine RL.e (Ef.app (k := 5) hS rfl rfl rfl (Src.pt (hS.get 8 rfl) (by first | exact Nat.le_of_ble_eq_true rfl | omega | (simp only [Array.size_map]; omega))) (by first | assumption | omega | (dsimp only; omega)) (by first | rfl | simp)) ?_ | refine RL.e (Ef.app (k := 5) hS rfl rfl rfl (Src.own hS 0 rfl) (by first | assumption | omega | (dsimp only; omega)) (by first | rfl | simp)) ?_ | refine RL.e (Ef.app (k := 5) hS rfl rfl rfl (Src.own hS 1 rfl) (by first | assumption | omega | (dsimp only; omega)) (by first | rfl | simp)) ?_ | refine RL.e (Ef.app (k := 5) hS rfl rfl rfl (Src.own hS 2 rfl) (by first | assumption | omega | (dsimp only; omega)) (by first | rfl | simp)) ?_ | refine RL.e (Ef.app (k := 5) hS rfl rfl rfl (Src.own hS 3 rfl) (by first | assumption | omega | (dsimp only; omega)) (by first | rfl | simp)) ?_ | refine RL.e (Ef.app (k := 5) hS rfl rfl rfl (Src.own hS 4 rfl) (by first | assumption | omega | (dsimp only; omega)) (by first | rfl | simp)) ?_ | refine RL.e (Ef.app (k := 5) hS rfl rfl rfl (Src.own hS 5 rfl) (by first | assumption | omega | (dsimp only; omega)) (by first | rfl | simp)) ?_ | refine RL.e (Ef.app (k := 5) hS rfl rfl rfl (Src.own hS 6 rfl) (by first | assumption | omega | (dsimp only; omega)) (by first | rfl | simp)) ?_ | refine RL.e (Ef.app (k := 5) hS rfl rfl rfl (Src.own hS 7 rfl) (by first | assumption | omega | (dsimp only; omega)) (by first | rfl | simp)) ?_ | refine RL.e (Ef.app (k := 5) hS rfl rfl rfl (Src.own hS 8 rfl) (by first | assumption | omega | (dsimp only; omega)) (by first | rfl | simp)) ?_ | refine RL.e (Ef.app (k := 6) hS rfl rfl rfl (Src.pt (hS.get 0 rfl) (by first | exact Nat.le_of_ble_eq_true rfl | omega | (simp only [Array.size_map]; omega))) (by first | assumption | omega | (dsimp only; omega)) (by first | rfl | simp)) ?_ | refine RL.e (Ef.app (k := 6) hS rfl rfl rfl (Src.pt (hS.get 1 rfl) (by first | exact Nat.le_of_ble_eq_true rfl | omega | (simp only [Array.size_map]; omega))) (by first | assumption | omega | (dsimp only; omega)) (by first | rfl | simp)) ?_ | refine RL.e (Ef.app (k := 6) hS rfl rfl rfl (Src.pt (hS.get 2 rfl) (by first | exact Nat.le_of_ble_eq_true rfl | omega | (simp only [Array.size_map]; omega))) (by first | assumption | omega | (dsimp only; omega)) (by first | rfl | simp)) ?_ | refine RL.e (Ef.app (k := 6) hS rfl rfl rfl (Src.pt (hS.get 3 rfl) (by first | exact Nat.le_of_ble_eq_true rfl | omega | (simp only [Array.size_map]; omega))) (by first | assumption | omega | (dsimp only; omega)) (by first | rfl | simp)) ?_ | refine RL.e (Ef.app (k := 6) hS rfl rfl rfl (Src.pt (hS.get 4 rfl) (by first | exact Nat.le_of_ble_eq_true rfl | omega | (simp only [Array.size_map]; omega))) (by first | assumption | omega | (dsimp only; omega)) (by first | rfl | simp)) ?_ | refine RL.e (Ef.app (k := 6) hS rfl rfl rfl (Src.pt (hS.get 5 rfl) (by first | exact Nat.le_of_ble_eq_true rfl | omega | (simp only [Array.size_map]; omega))) (by first | assumption | omega | (dsimp only; omega)) (by first | rfl | simp)) ?_ | refine RL.e (Ef.app (k := 6) hS rfl rfl rfl (Src.pt (hS.get 6 rfl) (by first | exact Nat.le_of_ble_eq_true rfl | omega | (simp only [Array.size_map]; omega))) (by first | assumption | omega | (dsimp only; omega)) (by first | rfl | simp)) ?_ | refine RL.e (Ef.app (k := 6) hS rfl rfl rfl (Src.pt (hS.get 7 rfl) (by first | exact Nat.le_of_ble_eq_true rfl | omega | (simp only [Array.size_map]; omega))) (by first | assumption | omega | (dsimp only; omega)) (by first | rfl | simp)) ?_ | refine RL.e (Ef.app (k := 6) hS rfl rfl rfl (Src.pt (hS.get 8 rfl) (by first | exact Nat.le_of_ble_eq_true rfl | omega | (simp only [Array.size_map]; omega))) (by first | assumption | omega | (dsimp only; omega)) (by first | rfl | simp)) ?_ | refine RL.e (Ef.app (k := 6) hS rfl rfl rfl (Src.own hS 0 rfl) (by first | assumption | omega | (dsimp only; omega)) (by first | rfl | simp)) ?_ | refine RL.e (Ef.app (k := 6) hS rfl rfl rfl (Src.own hS 1 rfl) (by first | assumption | omega | (dsimp only; omega)) (by first | rfl | simp)) ?_ | refine RL.e (Ef.app (k := 6) hS rfl rfl rfl (Src.own hS 2 rfl) (by first | assumption | omega | (dsimp only; omega)) (by first | rfl | simp)) ?_ | refine RL.e (Ef.app (k := 6) hS rfl rfl rfl (Src.own hS 3 rfl) (by first | assumption | omega | (dsimp only; omega)) (by first | rfl | simp)) ?_ | refine RL.e (Ef.app (k := 6) hS rfl rfl rfl (Src.own hS 4 rfl) (by first | assumption | omega | (dsimp only; omega)) (by first | rfl | simp)) ?_ | refine RL.e (Ef.app (k := 6) hS rfl rfl rfl (Src.own hS 5 rfl) (by first | assumption | omega | (dsimp only; omega)) (by first | rfl | simp)) ?_ | refine RL.e (Ef.app (k := 6) hS rfl rfl rfl (Src.own hS 6 rfl) (by first | assumption | omega | (dsimp only; omega)) (by first | rfl | simp)) ?_ | refine RL.e (Ef.app (k := 6) hS rfl rfl rfl (Src.own hS 7 rfl) (by first | assumption | omega | (dsimp only; omega)) (by first | rfl | simp)) ?_ | refine RL.e (Ef.app (k := 6) hS rfl rfl rfl (Src.own hS 8 rfl) (by first | assumption | omega | (dsimp only; omega)) (by first | rfl | simp)) ?_ | refine RL.e (Ef.app (k := 7) hS rfl rfl rfl (Src.pt (hS.get 0 rfl) (by first | exact Nat.le_of_ble_eq_true rfl | omega | (simp only [Array.size_map]; omega))) (by first | assumption | omega | (dsimp only; omega)) (by first | rfl | simp)) ?_ | refine RL.e (Ef.app (k := 7) hS rfl rfl rfl (Src.pt (hS.get 1 rfl) (by first | exact Nat.le_of_ble_eq_true rfl | omega | (simp only [Array.size_map]; omega))) (by first | assumption | omega | (dsimp only; omega)) (by first | rfl | simp)) ?_ | refine RL.e (Ef.app (k := 7) hS rfl rfl rfl (Src.pt (hS.get 2 rfl) (by first | exact Nat.le_of_ble_eq_true rfl | omega | (simp only [Array.size_map]; omega))) (by first | assumption | omega | (dsimp only; omega)) (by first | rfl | simp)) ?_ | refine RL.e (Ef.app (k := 7) hS rfl rfl rfl (Src.pt (hS.get 3 rfl) (by first | exact Nat.le_of_ble_eq_true rfl | omega | (simp only [Array.size_map]; omega))) (by first | assumption | omega | (dsimp only; omega)) (by first | rfl | simp)) ?_ | refine RL.e (Ef.app (k := 7) hS rfl rfl rfl (Src.pt (hS.get 4 rfl) (by first | exact Nat.le_of_ble_eq_true rfl | omega | (simp only [Array.size_map]; omega))) (by first | assumption | omega | (dsimp only; omega)) (by first | rfl | simp)) ?_ | refine RL.e (Ef.app (k := 7) hS rfl rfl rfl (Src.pt (hS.get 5 rfl) (by first | exact Nat.le_of_ble_eq_true rfl | omega | (simp only [Array.size_map]; omega))) (by first | assumption | omega | (dsimp only; omega)) (by first | rfl | simp)) ?_ | refine RL.e (Ef.app (k := 7) hS rfl rfl rfl (Src.pt (hS.get 6 rfl) (by first | exact Nat.le_of_ble_eq_true rfl | omega | (simp only [Array.size_map]; omega))) (by first | assumption | omega | (dsimp only; omega)) (by first | rfl | simp)) ?_ | refine RL.e (Ef.app (k := 7) hS rfl rfl rfl (Src.pt (hS.get 7 rfl) (by first | exact Nat.le_of_ble_eq_true rfl | omega | (simp only [Array.size_map]; omega))) (by first | assumption | omega | (dsimp only; omega)) (by first | rfl | simp)) ?_ | refine RL.e (Ef.app (k := 7) hS rfl rfl rfl (Src.pt (hS.get 8 rfl) (by first | exact Nat.le_of_ble_eq_true rfl | omega | (simp only [Array.size_map]; omega))) (by first | assumption | omega | (dsimp only; omega)) (by first | rfl | simp)) ?_ | refine RL.e (Ef.app (k := 7) hS rfl rfl rfl (Src.own hS 0 rfl) (by first | assumption | omega | (dsimp only; omega)) (by first | rfl | simp)) ?_ | refine RL.e (Ef.app (k := 7) hS rfl rfl rfl (Src.own hS 1 rfl) (by first | assumption | omega | (dsimp only; omega)) (by first | rfl | simp)) ?_ | refine RL.e (Ef.app (k := 7) hS rfl rfl rfl (Src.own hS 2 rfl) (by first | assumption | omega | (dsimp only; omega)) (by first | rfl | simp)) ?_ | refine RL.e (Ef.app (k := 7) hS rfl rfl rfl (Src.own hS 3 rfl) (by first | assumption | omega | (dsimp only; omega)) (by first | rfl | simp)) ?_ | refine RL.e (Ef.app (k := 7) hS rfl rfl rfl (Src.own hS 4 rfl) (by first | assumption | omega | (dsimp only; omega)) (by first | rfl | simp)) ?_ | refine RL.e (Ef.app (k := 7) hS rfl rfl rfl (Src.own hS 5 rfl) (by first | assumption | omega | (dsimp only; omega)) (by first | rfl | simp)) ?_ | refine RL.e (Ef.app (k := 7) hS rfl rfl rfl (Src.own hS 6 rfl) (by first | assumption | omega | (dsimp only; omega)) (by first | rfl | simp)) ?_ | refine RL.e (Ef.app (k := 7) hS rfl rfl rfl (Src.own hS 7 rfl) (by first | assumption | omega | (dsimp only; omega)) (by first | rfl | simp)) ?_ | refine RL.e (Ef.app (k := 7) hS rfl rfl rfl (Src.own hS 8 rfl) (by first | assumption | omega | (dsimp only; omega)) (by first | rfl | simp)) ?_ | refine RL.e (Ef.app (k := 8) hS rfl rfl rfl (Src.pt (hS.get 0 rfl) (by first | exact Nat.le_of_ble_eq_true rfl | omega | (simp only [Array.size_map]; omega))) (by first | assumption | omega | (dsimp only; omega)) (by first | rfl | simp)) ?_ | refine RL.e (Ef.app (k := 8) hS rfl rfl rfl (Src.pt (hS.get 1 rfl) (by first | exact Nat.le_of_ble_eq_true rfl | omega | (simp only [Array.size_map]; omega))) (by first | assumption | omega | (dsimp only; omega)) (by first | rfl | simp)) ?_ | refine RL.e (Ef.app (k := 8) hS rfl rfl rfl (Src.pt (hS.get 2 rfl) (by first | exact Nat.le_of_ble_eq_true rfl | omega | (simp only [Array.size_map]; omega))) (by first | assumption | omega | (dsimp only; omega)) (by first | rfl | simp)) ?_ | refine RL.e (Ef.app (k := 8) hS rfl rfl rfl (Src.pt (hS.get 3 rfl) (by first | exact Nat.le_of_ble_eq_true rfl | omega | (simp only [Array.size_map]; omega))) (by first | assumption | omega | (dsimp only; omega)) (by first | rfl | simp)) ?_ | refine RL.e (Ef.app (k := 8) hS rfl rfl rfl (Src.pt (hS.get 4 rfl) (by first | exact Nat.le_of_ble_eq_true rfl | omega | (simp only [Array.size_map]; omega))) (by first | assumption | omega | (dsimp only; omega)) (by first | rfl | simp)) ?_ | refine RL.e (Ef.app (k := 8) hS rfl rfl rfl (Src.pt (hS.get 5 rfl) (by first | exact Nat.le_of_ble_eq_true rfl | omega | (simp only [Array.size_map]; omega))) (by first | assumption | omega | (dsimp only; omega)) (by first | rfl | simp)) ?_ | refine RL.e (Ef.app (k := 8) hS rfl rfl rfl (Src.pt (hS.get 6 rfl) (by first | exact Nat.le_of_ble_eq_true rfl | omega | (simp only [Array.size_map]; omega))) (by first | assumption | omega | (dsimp only; omega)) (by first | rfl | simp)) ?_ | refine RL.e (Ef.app (k := 8) hS rfl rfl rfl (Src.pt (hS.get 7 rfl) (by first | exact Nat.le_of_ble_eq_true rfl | omega | (simp only [Array.size_map]; omega))) (by first | assumption | omega | (dsimp only; omega)) (by first | rfl | simp)) ?_ | refine RL.e (Ef.app (k := 8) hS rfl rfl rfl (Src.pt (hS.get 8 rfl) (by first | exact Nat.le_of_ble_eq_true rfl | omega | (simp only [Array.size_map]; omega))) (by first | assumption | omega | (dsimp only; omega)) (by first | rfl | simp)) ?_ | refine RL.e (Ef.app (k := 8) hS rfl rfl rfl (Src.own hS 0 rfl) (by first | assumption | omega | (dsimp only; omega)) (by first | rfl | simp)) ?_ | refine RL.e (Ef.app (k := 8) hS rfl rfl rfl (Src.own hS 1 rfl) (by first | assumption | omega | (dsimp only; omega)) (by first | rfl | simp)) ?_ | refine RL.e (Ef.app (k := 8) hS rfl rfl rfl (Src.own hS 2 rfl) (by first | assumption | omega | (dsimp only; omega)) (by first | rfl | simp)) ?_ | refine RL.e (Ef.app (k := 8) hS rfl rfl rfl (Src.own hS 3 rfl) (by first | assumption | omega | (dsimp only; omega)) (by first | rfl | simp)) ?_ | refine RL.e (Ef.app (k := 8) hS rfl rfl rfl (Src.own hS 4 rfl) (by first | assumption | omega | (dsimp only; omega)) (by first | rfl | simp)) ?_ | refine RL.e (Ef.app (k := 8) hS rfl rfl rfl (Src.own hS 5 rfl) (by first | assumption | omega | (dsimp only; omega)) (by first | rfl | simp)) ?_ | refine RL.e (Ef.app (k := 8) hS rfl rfl rfl (Src.own hS 6 rfl) (by first | assumption | omega | (dsimp only; omega)) (by first | rfl | simp)) ?_ | refine RL.e (Ef.app (k := 8) hS rfl rfl rfl (Src.own hS 7 rfl) (by first | assumption | omega | (dsimp only; omega)) (by first | rfl | simp)) ?_ | refine RL.e (Ef.app (k := 8) hS rfl rfl rfl (Src.own hS 8 rfl) (by first | assumption | omega | (dsimp only; omega)) (by first | rfl | simp)) ?_
    intro s14 w hS
    simp only [List.set_cons_zero, List.set_cons_succ, List.drop_zero] at hS
    first | (obtain ⟨sp14, cp14, rfl⟩ := hS.ownForm 0 rfl) | (obtain ⟨sp14, cp14, rfl⟩ := hS.ownForm 1 rfl) | (obtain ⟨sp14, cp14, rfl⟩ := hS.ownForm 2 rfl) | (obtain ⟨sp14, cp14, rfl⟩ := hS.ownForm 3 rfl) | (obtain ⟨sp14, cp14, rfl⟩ := hS.ownForm 4 rfl) | (obtain ⟨sp14, cp14, rfl⟩ := hS.ownForm 5 rfl) | (obtain ⟨sp14, cp14, rfl⟩ := hS.ownForm 6 rfl) | (obtain ⟨sp14, cp14, rfl⟩ := hS.ownForm 7 rfl) | (obtain ⟨sp14, cp14, rfl⟩ := hS.ownForm 8 rfl)
    first | refine RL.e0 (Ef.st hS 0 rfl rfl rfl (by rfl) (by rfl) (by first | exact Nat.le_of_ble_eq_true rfl | omega | (simp only [Array.size_map]; omega))) ?_ | refine RL.e0 (Ef.st hS 1 rfl rfl rfl (by rfl) (by rfl) (by first | exact Nat.le_of_ble_eq_true rfl | omega | (simp only [Array.size_map]; omega))) ?_ | refine RL.e0 (Ef.st hS 2 rfl rfl rfl (by rfl) (by rfl) (by first | exact Nat.le_of_ble_eq_true rfl | omega | (simp only [Array.size_map]; omega))) ?_ | refine RL.e0 (Ef.st hS 3 rfl rfl rfl (by rfl) (by rfl) (by first | exact Nat.le_of_ble_eq_true rfl | omega | (simp only [Array.size_map]; omega))) ?_ | refine RL.e0 (Ef.st hS 4 rfl rfl rfl (by rfl) (by rfl) (by first | exact Nat.le_of_ble_eq_true rfl | omega | (simp only [Array.size_map]; omega))) ?_ | refine RL.e0 (Ef.st hS 5 rfl rfl rfl (by rfl) (by rfl) (by first | exact Nat.le_of_ble_eq_true rfl | omega | (simp only [Array.size_map]; omega))) ?_ | refine RL.e0 (Ef.st hS 6 rfl rfl rfl (by rfl) (by rfl) (by first | exact Nat.le_of_ble_eq_true rfl | omega | (simp only [Array.size_map]; omega))) ?_ | refine RL.e0 (Ef.st hS 7 rfl rfl rfl (by rfl) (by rfl) (by first | exact Nat.le_of_ble_eq_true rfl | omega | (simp only [Array.size_map]; omega))) ?_ | refine RL.e0 (Ef.st hS 8 rfl rfl rfl (by rfl) (by rfl) (by first | exact Nat.le_of_ble_eq_true rfl | omega | (simp only [Array.size_map]; omega))) ?_
    intro _ w hS
    simp (disch := omega) only [List.set_cons_zero, List.set_cons_succ, cells_slice', wr, List.setIfInBounds_toArray] at hS
    refine RL.nil ?_
    refine RE.bkN ?_
    -- stops: rd normal
    refine RE.rdN hr ?_
    have e1 : ((rIds l lv).take (k + 1)).length = ((rIds l lv).take k).length + 1 := by rw [htk, List.length_append]; rfl
    have e2 : ints ((rIds l lv).take (k + 1)) = ints ((rIds l lv).take k) ++ [.int .i64 (rIds l lv)[k]] := by rw [htk, ints, List.map_append]; rfl
    have hS := outP_shut (l := (rIds l lv).take (k + 1)) (b := b5) (T := 28) (v := .slice sp14 (((rIds l lv).take k).length + 1) cp14) (by unfold ownI; rw [e1, e2]; exact hS.pick [1, 2, 3, 4, 5, 6, 7, 8] (by decide) rfl)
    exact hS.pick [1, 2, 3, 0, 4, 5, 6] (by decide) rfl
  · intro b' w hS
    rw [List.length_map, List.take_length] at hS
    obtain ⟨sp, cp, hS⟩ := outP_open (hS.pick [3, 2, 4, 5] (by decide) rfl)
    refine RE.bkN ?_
    refine RE.sqN ?_
    refine RC.seq ?_
    refine RC.region rfl ?_
    refine RL.q (Qt.ld rfl (by first | exact hS.at 0 rfl | exact hS.at 1 rfl | exact hS.at 2 rfl | exact hS.at 3 rfl | exact hS.at 4 rfl) (by first  | rfl)) ?_
    refine RL.q (Qt.as rfl) ?_
    refine RL.nil ?_
    refine RE.sqN ?_
    refine RC.ret ?_
    -- stops: end ret
    exact RE.retM hS (k := 4) rfl rfl (ps := [ownI _ (rIds l lv), qO _ n l]) rfl [1, 2, 3] (by decide) rfl
end Go.Proofs

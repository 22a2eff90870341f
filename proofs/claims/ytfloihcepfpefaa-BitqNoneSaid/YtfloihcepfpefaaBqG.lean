/- The laws BitqPlays and BitqRemoves answer true. -/
import Derived.Test.YtfloihcepfpefaaBqS
namespace Go.Proofs
open Go Go.Gx
variable {oo : World}

set_option maxHeartbeats 1000000 in
theorem bqLawPlays (n : Int) (hn : 0 ≤ n ∧ n ≤ 255) (v : Value) (ds : List Deed) (x : Deed) (F0 : Frag) (hR : DeedsAt v ds F0) (hd : ∀ x ∈ ds, x.ok) (hx : x.ok) : Ct Try.prog 7 #[.int .u8 n, v, x.val] [pin F0] (fun v' ps => v' = .bool true ∧ ps = [pin F0]) := by
  refine Ct.enter Try.func7 rfl (Nat.le_of_ble_eq_true rfl) ?_
  intro oo w R hS
  change RC _ _ _ _ _ _ [(0, _), (1, _), (2, _)] _
  refine RC.seq ?_
  refine RC.region rfl ?_
  refine RL.e (Ef.box hS rfl) ?_
  rintro _ w ⟨b5, rfl, hS⟩
  try simp (disch := omega) only [List.set_cons_zero, List.set_cons_succ, cells_int, cells_bool, cells_ptr, cells_slice, cells_func, cells_agg, cells_map, cells_int', cells_bool', cells_ptr', cells_slice', cells_agg', cells_map', cells_func', Nat.zero_add, wr, List.setIfInBounds_toArray] at hS
  refine RL.q (Qt.as rfl) ?_
  refine RL.nil ?_
  refine RE.sqN ?_
  refine RC.seq ?_
  refine RC.region rfl ?_
  refine RL.q (Qt.mv rfl) ?_
  refine RL.q (Qt.mv rfl) ?_
  -- stops: op call
  refine RL.e (Ef.call hS (bqPlay n hn v ds F0 hR hd) rfl rfl Try.call11 [1] [0, 2] (by decide) rfl rfl) ?_
  rintro v13 w ⟨ps, ⟨p, r, l, rfl, rfl⟩, hS⟩
  refine RL.q (Qt.mv rfl) ?_
  refine RL.q (Qt.ext rfl rfl) ?_
  refine RL.q (Qt.ext rfl rfl) ?_
  refine RL.q (Qt.ext rfl rfl) ?_
  refine RL.q (Qt.as rfl) ?_
  refine RL.q (Qt.as rfl) ?_
  refine RL.q (Qt.as rfl) ?_
  refine RL.nil ?_
  refine RE.sqN ?_
  refine RC.seq ?_
  refine RC.region rfl ?_
  -- stops: op call
  refine RL.e (Ef.call hS (bqLive) rfl rfl Try.call12 [] [0, 1, 2, 3, 4] (by decide) rfl rfl) ?_
  rintro v17 w ⟨ps, ⟨rfl, p', l', rfl⟩, hS⟩
  refine RL.q (Qt.mv rfl) ?_
  refine RLG.start 18 true rfl ?_
  refine RLG.q rfl rfl rfl (fun _ => Qt.mv rfl) ?_
  refine RLG.and rfl rfl ?_
  refine RL.q (Qt.mv rfl) ?_
  -- stops: guard
  refine RL.q (Qt.mv rfl) ?_ (Runs.guard rfl rfl rfl (rfl))
  refine RL.q (Qt.mv rfl) ?_ (Runs.guard rfl rfl rfl (rfl))
  refine RL.q (Qt.ldA rfl (by first | exact hS.at 0 rfl | exact hS.at 1 rfl | exact hS.at 2 rfl | exact hS.at 3 rfl | exact hS.at 4 rfl | exact hS.at 5 rfl) (by first  | rfl) (by first | exact Nat.le_of_ble_eq_true rfl | omega | (simp only [Array.size_map]; omega))) ?_ (Runs.guard rfl rfl rfl (rfl))
  -- stops: op call
  refine RL.e (Ef.call hS (bqSame p r _ l x hx) rfl rfl Try.call20 [1, 2] [0, 3, 4, 5] (by decide) rfl rfl) ?_ (Runs.guard rfl rfl rfl (rfl))
  rintro v25 w ⟨ps, ⟨rfl, rfl⟩, hS⟩
  refine RL.q ((by first | exact Qt.pickT rfl (by assumption) rfl | exact Qt.pickF rfl (by assumption) rfl | exact Qt.pickT rfl rfl rfl | exact Qt.pickF rfl rfl rfl)) ?_
  refine RL.q (Qt.as rfl) ?_
  refine RL.nil ?_
  refine RE.sqN ?_
  refine RC.ret ?_
  -- stops: end ret
  exact RE.retB rfl ⟨rfl, rfl⟩ (hS.pick [3, 5] (by decide) rfl)

theorem rat_without {l : List RItem} (id : Int) : rat (rWithout l id) id = -1 := by
  rcases rat_spec (rWithout l id) id with ⟨_, h⟩ | ⟨i, hi, _, h2⟩
  · exact h
  · have hm : (rWithout l id)[i] ∈ rWithout l id := List.getElem_mem hi
    have := (List.mem_filter.1 hm).2
    simp [h2] at this

set_option maxHeartbeats 2000000 in
theorem bqLawRemoves (n : Int) (hn : 0 ≤ n ∧ n ≤ 255) (v : Value) (ds : List Deed) (x : Deed) (F0 : Frag) (hR : DeedsAt v ds F0) (hd : ∀ x ∈ ds, x.ok) (hx : x.ok) : Ct Try.prog 8 #[.int .u8 n, v, x.val] [pin F0] (fun v' ps => v' = .bool true ∧ ps = [pin F0]) := by
  refine Ct.enter Try.func8 rfl (Nat.le_of_ble_eq_true rfl) ?_
  intro oo w R hS
  change RC _ _ _ _ _ _ [(0, _), (1, _), (2, _)] _
  refine RC.seq ?_
  refine RC.region rfl ?_
  refine RL.e (Ef.box hS rfl) ?_
  rintro _ w ⟨b5, rfl, hS⟩
  try simp (disch := omega) only [List.set_cons_zero, List.set_cons_succ, cells_int, cells_bool, cells_ptr, cells_slice, cells_func, cells_agg, cells_map, cells_int', cells_bool', cells_ptr', cells_slice', cells_agg', cells_map', cells_func', Nat.zero_add, wr, List.setIfInBounds_toArray] at hS
  refine RL.q (Qt.as rfl) ?_
  refine RL.nil ?_
  refine RE.sqN ?_
  refine RC.seq ?_
  refine RC.region rfl ?_
  refine RL.q (Qt.mv rfl) ?_
  refine RL.q (Qt.mv rfl) ?_
  -- stops: op call
  refine RL.e (Ef.call hS (bqPlay n hn v ds F0 hR hd) rfl rfl Try.call11 [1] [0, 2] (by decide) rfl rfl) ?_
  rintro v21 w ⟨ps, ⟨p, r, l, rfl, rfl⟩, hS⟩
  refine RL.q (Qt.mv rfl) ?_
  refine RL.q (Qt.ext rfl rfl) ?_
  refine RL.q (Qt.ext rfl rfl) ?_
  refine RL.q (Qt.ext rfl rfl) ?_
  refine RL.q (Qt.as rfl) ?_
  refine RL.q (Qt.as rfl) ?_
  refine RL.q (Qt.as rfl) ?_
  refine RL.nil ?_
  refine RE.sqN ?_
  refine RC.seq ?_
  refine RC.seq ?_
  refine RC.region rfl ?_
  -- stops: op call
  refine RL.e (Ef.call hS (bqLive) rfl rfl Try.call12 [] [0, 1, 2, 3, 4] (by decide) rfl rfl) ?_
  rintro v25 w ⟨ps, ⟨rfl, p', l', rfl⟩, hS⟩
  refine RL.q (Qt.not rfl) ?_
  refine RL.q (Qt.mv rfl) ?_
  refine RLG.start 27 false rfl ?_
  refine RLG.q rfl rfl rfl (fun _ => Qt.mv rfl) ?_
  refine RLG.q rfl rfl rfl (fun _ => Qt.not rfl) ?_
  refine RLG.or rfl rfl ?_
  refine RL.nil ?_
  refine RE.sqN ?_
  -- stops: cond
  refine RC.condF rfl (rfl) ?_
  refine RC.skip ?_
  refine RE.sqN ?_
  refine RC.seq ?_
  refine RC.region rfl ?_
  refine RL.q (Qt.mv rfl) ?_
  refine RL.q (Qt.fld rfl) ?_
  refine RL.q (Qt.ld rfl (by first | exact hS.at 0 rfl | exact hS.at 1 rfl | exact hS.at 2 rfl | exact hS.at 3 rfl | exact hS.at 4 rfl | exact hS.at 5 rfl) (by first  | rfl)) ?_
  -- stops: op call
  refine RL.e (Ef.call hS (bqLevelT p _ l x.id) rfl rfl Try.call21 [1] [0, 2, 3, 4, 5] (by decide) rfl rfl) ?_
  rintro v35 w ⟨ps, ⟨rfl, rfl⟩, hS⟩
  refine RL.q (Qt.mv rfl) ?_
  refine RL.q (Qt.ext rfl rfl) ?_
  refine RL.q (Qt.ext rfl rfl) ?_
  refine RL.q (Qt.as rfl) ?_
  refine RL.q (Qt.as rfl) ?_
  refine RL.nil ?_
  refine RE.sqN ?_
  refine RC.seq ?_
  refine RC.region rfl ?_
  refine RL.q (Qt.mv rfl) ?_
  refine RL.q (Qt.mv rfl) ?_
  -- stops: op call
  have hq : ∃ q : BQ, RI q (n % 12 + 1).toNat l := by
    obtain ⟨q, _, _, _, _, _, _, _, hq, _⟩ := qO_open hS
    exact ⟨q, hq.ri⟩
  obtain ⟨q, hq⟩ := hq
  have hlv : 0 ≤ levLv l x.id ∧ levLv l x.id ≤ 255 := by
    unfold levLv
    split
    · omega
    · rcases rat_spec l x.id with ⟨_, g⟩ | ⟨i, hi, g1, _⟩
      · omega
      · rw [g1, rget]; simp [hi]; exact (hq.range _ (List.getElem_mem hi)).2
  have hlen := hq.lenLe
  have hrl := rIds_length_le l (levLv l x.id)
  refine RL.e (Ef.call hS (bqListP p _ l (levLv l x.id) hlv) rfl rfl Try.call18 [0] [1, 2, 3, 4, 5] (by decide) rfl rfl) ?_
  rintro v40 w ⟨ps, rfl, hS⟩
  refine RL.q (Qt.as rfl) ?_
  refine RL.nil ?_
  refine RE.sqN ?_
  refine RC.seq ?_
  refine RC.region rfl ?_
  refine RL.q (Qt.mv rfl) ?_
  refine RL.q (Qt.fld rfl) ?_
  refine RL.q (Qt.ld rfl (by first | exact hS.at 0 rfl | exact hS.at 1 rfl | exact hS.at 2 rfl | exact hS.at 3 rfl | exact hS.at 4 rfl | exact hS.at 5 rfl | exact hS.at 6 rfl) (by first  | rfl)) ?_
  -- stops: op call
  refine RL.e (Ef.call hS (bqRemove p _ l x.id) rfl rfl Try.call22 [1] [0, 2, 3, 4, 5, 6] (by decide) rfl rfl) ?_
  rintro v44 w ⟨ps, ⟨rfl, rfl⟩, hS⟩
  refine RL.q (Qt.as rfl) ?_
  refine RL.nil ?_
  refine RE.sqN ?_
  refine RC.seq ?_
  refine RC.seq ?_
  refine RC.region rfl ?_
  refine RL.q (Qt.mv rfl) ?_
  refine RL.q (Qt.not rfl) ?_
  refine RL.nil ?_
  refine RE.sqN ?_
  -- stops: cond
  refine RC.cond rfl (fun h => ?_) (fun h => ?_)
  · skip
    have h : ¬ 0 ≤ rat l x.id := by simpa using h
    have h1 : rRemErr l (n % 12 + 1).toNat x.id = 2 ∨ rRemErr l (n % 12 + 1).toNat x.id = 6 := by
      unfold rRemErr
      split
      · exact .inl rfl
      · rw [if_pos (by omega)]; exact .inr rfl
    refine RC.seq ?_
    refine RC.region rfl ?_
    refine RL.q (Qt.mv rfl) ?_
    refine RL.q (Qt.eql rfl rfl) ?_
    refine RL.q (Qt.mv rfl) ?_
    refine RLG.start 49 false rfl ?_
    refine RLG.q rfl rfl rfl (fun _ => Qt.mv rfl) ?_
    refine RLG.q rfl rfl rfl (fun hg => by (try simp only [decide_eq_false_iff_not] at hg); exact Qt.eql rfl rfl) ?_
    refine RLG.or rfl rfl ?_
    refine RL.q (Qt.as rfl) ?_
    refine RL.nil ?_
    refine RE.sqN ?_
    refine RC.ret ?_
    refine RE.sqR ?_
    -- stops: end ret
    refine RE.retB rfl ⟨?_, rfl⟩ (hS.pick [4, 6] (by decide) rfl)
    rcases h1 with h1 | h1 <;> simp [oneOf, h1]
  · skip
    have h : 0 ≤ rat l x.id := by simpa using h
    have hin : 0 ≤ x.id ∧ x.id < (n % 12 + 1).toNat := by
      obtain ⟨y, hy, e⟩ := List.mem_map.1 (rat_mem.1 h)
      rw [← e]; exact (hq.range y hy).1
    have he : rRemErr l (n % 12 + 1).toNat x.id = 0 := by rw [rRemErr, if_neg (by omega), if_neg (by omega)]
    have hm : rRem l (n % 12 + 1).toNat x.id = rWithout l x.id := by rw [rRem, if_pos he]; exact rat_out hq.nodup h
    rw [hm] at hS
    rw [he]
    have hp : rPushErr (rWithout l x.id) (n % 12 + 1).toNat x.id = 0 := by rw [rPushErr, if_neg (by omega), if_neg (by rw [rat_without]; omega)]
    have hri := rIds_without l x.id (levLv l x.id)
    obtain ⟨sp, cap, rfl⟩ := hS.ownForm 1 rfl
    have hS := (hS.nilOwn (T := 3) (sz := 1)).pick [0, 2, 1, 5, 6, 7] (by decide) rfl
    refine RC.skip ?_
    refine RE.sqN ?_
    refine RC.seq ?_
    refine RC.region rfl ?_
    refine RL.q (Qt.as rfl) ?_
    refine RL.nil ?_
    refine RE.sqN ?_
    refine RC.seq ?_
    refine RC.seq ?_
    refine RC.region rfl ?_
    refine RL.q (Qt.as rfl) ?_
    refine RL.nil ?_
    refine RE.sqN ?_
    refine RC.block ?_
    -- stops: loop
    refine RC.loop (γ := Nat × Value) (fun g E w' => E = [(15, .int .i64 g.1), (14, g.2), (12, .slice sp (rIds l (levLv l x.id)).length cap), (13, .int .i64 0), (10, .int .u8 (levLv l x.id)), (7, p), (5, .pointer (some ⟨b5, 0, none⟩))] ∧ g.1 ≤ (rIds l (levLv l x.id)).length ∧ Sat oo w' [ownI g.2 (((rIds l (levLv l x.id)).take g.1).filter (fun a => decide (a ≠ x.id))), ownI (.slice sp (rIds l (levLv l x.id)).length cap) (rIds l (levLv l x.id)), qO p (n % 12 + 1).toNat (rWithout l x.id), pin F0, pt b5 (.cells x.cells.toArray 37 (0, 0)), R]) (fun g => (rIds l (levLv l x.id)).length - g.1) (0, .slice none 0 0) _ (by (repeat (first | exact Sub.nil | refine Sub.cons rfl ?_))) ⟨rfl, by simp, hS⟩ ?_
    clear hS
    rintro ⟨k, wv⟩ E w ⟨rfl, hk, hS⟩
    dsimp only at hk hS
    refine RC.seq ?_
    refine RC.seq ?_
    refine RC.region rfl ?_
    refine RL.q (Qt.mv rfl) ?_
    refine RL.q (Qt.mv rfl) ?_
    refine RL.q (Qt.lenS rfl) ?_
    refine RL.q (Qt.lss rfl rfl) ?_
    refine RL.nil ?_
    refine RE.sqN ?_
    -- stops: cond
    refine RC.cond rfl (fun h2 => ?_) (fun h2 => ?_)
    · skip
      have hlt : k < (rIds l (levLv l x.id)).length := by simpa using h2
      have htk : (rIds l (levLv l x.id)).take (k + 1) = (rIds l (levLv l x.id)).take k ++ [(rIds l (levLv l x.id))[k]] := List.take_succ_eq_append_getElem hlt
      have hfl : (((rIds l (levLv l x.id)).take k).filter (fun a => decide (a ≠ x.id))).length ≤ k := Nat.le_trans (List.length_filter_le _ _) (by rw [List.length_take]; omega)
      have hS0 := hS
      obtain ⟨bs, cap', c, hv, hc1, hc2, hc3, hc4, hS⟩ := hS.ownPos 1 rfl (by omega)
      cases hv
      refine RC.skip ?_
      refine RE.sqN ?_
      refine RC.seq ?_
      refine RC.block ?_
      refine RC.seq ?_
      refine RC.drawn 7 [0, 1, 2, 3, 4, 5, 6] (Same _) (by kernel_rfl) (by kernel_rfl) Same.drew (fun hh => ?_)
      replace hS := hS.drew
      refine RH.q hh (Calm.sq (Calm.bk (Calm.sq (Calm.lp (Calm.bk (Calm.sq Calm.body)))))) rfl (by kernel_rfl) (Qt.mv rfl) ?_
      refine RH.q hh (Calm.sq (Calm.bk (Calm.sq (Calm.lp (Calm.bk (Calm.sq Calm.body)))))) rfl (by kernel_rfl) (Qt.mv rfl) ?_
      refine RH.q hh (Calm.sq (Calm.bk (Calm.sq (Calm.lp (Calm.bk (Calm.sq Calm.body)))))) rfl (by kernel_rfl) (Qt.ixS rfl rfl (by first | assumption | omega) (by first | assumption | omega)) ?_
      refine RH.q hh (Calm.sq (Calm.bk (Calm.sq (Calm.lp (Calm.bk (Calm.sq Calm.body)))))) rfl (by kernel_rfl) (Qt.ld rfl (by first | exact hS.at 0 rfl | exact hS.at 1 rfl | exact hS.at 2 rfl | exact hS.at 3 rfl | exact hS.at 4 rfl | exact hS.at 5 rfl) (by first | exact int_cell hc4 rfl hlt | rfl)) ?_
      refine RH.q hh (Calm.sq (Calm.bk (Calm.sq (Calm.lp (Calm.bk (Calm.sq Calm.body)))))) rfl (by kernel_rfl) (Qt.fld rfl) ?_
      refine RH.q hh (Calm.sq (Calm.bk (Calm.sq (Calm.lp (Calm.bk (Calm.sq Calm.body)))))) rfl (by kernel_rfl) (Qt.ld rfl (by first | exact hS.at 0 rfl | exact hS.at 1 rfl | exact hS.at 2 rfl | exact hS.at 3 rfl | exact hS.at 4 rfl | exact hS.at 5 rfl) (by first | exact int_cell hc4 rfl hlt | rfl)) ?_
      refine RH.q hh (Calm.sq (Calm.bk (Calm.sq (Calm.lp (Calm.bk (Calm.sq Calm.body)))))) rfl (by kernel_rfl) (Qt.neq rfl rfl) ?_
      refine RH.done hh (by kernel_rfl) ?_
      refine RL.nil ?_
      refine RE.sqN ?_
      -- stops: cond
      refine RC.cond rfl (fun h3 => ?_) (fun h3 => ?_)
      · skip
        have h3 : (rIds l (levLv l x.id))[k] ≠ x.id := of_decide_eq_true h3
        obtain ⟨spw, cpw, rfl⟩ := hS.ownForm 0 rfl
        refine RC.region rfl ?_
        refine RL.q (Qt.mv rfl) ?_
        refine RL.q (Qt.mv rfl) ?_
        refine RL.q (Qt.mv rfl) ?_
        refine RL.q (Qt.ixS rfl rfl (by first | assumption | omega) (by first | assumption | omega)) ?_
        refine RL.q (Qt.ld rfl (by first | exact hS.at 0 rfl | exact hS.at 1 rfl | exact hS.at 2 rfl | exact hS.at 3 rfl | exact hS.at 4 rfl | exact hS.at 5 rfl) (by first | exact int_cell hc4 rfl hlt | rfl)) ?_
        refine RL.e (Ef.bsl1 hS rfl) ?_
        rintro _ w ⟨b71, rfl, hS⟩
        try simp (disch := omega) only [List.set_cons_zero, List.set_cons_succ, cells_int'] at hS
        first | refine RL.e (Ef.app (k := 1) hS rfl rfl rfl (Src.pt (hS.get 0 rfl) (by first | exact Nat.le_of_ble_eq_true rfl | omega | (simp only [Array.size_map]; omega))) (by first | assumption | omega) (by first | rfl | simp)) ?_ | refine RL.e (Ef.app (k := 1) hS rfl rfl rfl (Src.pt (hS.get 1 rfl) (by first | exact Nat.le_of_ble_eq_true rfl | omega | (simp only [Array.size_map]; omega))) (by first | assumption | omega) (by first | rfl | simp)) ?_ | refine RL.e (Ef.app (k := 1) hS rfl rfl rfl (Src.pt (hS.get 2 rfl) (by first | exact Nat.le_of_ble_eq_true rfl | omega | (simp only [Array.size_map]; omega))) (by first | assumption | omega) (by first | rfl | simp)) ?_ | refine RL.e (Ef.app (k := 1) hS rfl rfl rfl (Src.pt (hS.get 3 rfl) (by first | exact Nat.le_of_ble_eq_true rfl | omega | (simp only [Array.size_map]; omega))) (by first | assumption | omega) (by first | rfl | simp)) ?_ | refine RL.e (Ef.app (k := 1) hS rfl rfl rfl (Src.pt (hS.get 4 rfl) (by first | exact Nat.le_of_ble_eq_true rfl | omega | (simp only [Array.size_map]; omega))) (by first | assumption | omega) (by first | rfl | simp)) ?_ | refine RL.e (Ef.app (k := 1) hS rfl rfl rfl (Src.pt (hS.get 5 rfl) (by first | exact Nat.le_of_ble_eq_true rfl | omega | (simp only [Array.size_map]; omega))) (by first | assumption | omega) (by first | rfl | simp)) ?_ | refine RL.e (Ef.app (k := 1) hS rfl rfl rfl (Src.pt (hS.get 6 rfl) (by first | exact Nat.le_of_ble_eq_true rfl | omega | (simp only [Array.size_map]; omega))) (by first | assumption | omega) (by first | rfl | simp)) ?_ | refine RL.e (Ef.app (k := 1) hS rfl rfl rfl (Src.own hS 0 rfl) (by first | assumption | omega) (by first | rfl | simp)) ?_ | refine RL.e (Ef.app (k := 1) hS rfl rfl rfl (Src.own hS 1 rfl) (by first | assumption | omega) (by first | rfl | simp)) ?_ | refine RL.e (Ef.app (k := 1) hS rfl rfl rfl (Src.own hS 2 rfl) (by first | assumption | omega) (by first | rfl | simp)) ?_ | refine RL.e (Ef.app (k := 1) hS rfl rfl rfl (Src.own hS 3 rfl) (by first | assumption | omega) (by first | rfl | simp)) ?_ | refine RL.e (Ef.app (k := 1) hS rfl rfl rfl (Src.own hS 4 rfl) (by first | assumption | omega) (by first | rfl | simp)) ?_ | refine RL.e (Ef.app (k := 1) hS rfl rfl rfl (Src.own hS 5 rfl) (by first | assumption | omega) (by first | rfl | simp)) ?_ | refine RL.e (Ef.app (k := 1) hS rfl rfl rfl (Src.own hS 6 rfl) (by first | assumption | omega) (by first | rfl | simp)) ?_
        intro s72 w hS
        simp only [List.set_cons_zero, List.set_cons_succ, List.drop_zero] at hS
        first | (obtain ⟨sp72, cp72, rfl⟩ := hS.ownForm 1 rfl)
        refine RL.q (Qt.as rfl) ?_
        refine RL.nil ?_
        refine RE.bkN ?_
        refine RE.sqN ?_
        refine RC.region rfl ?_
        refine RL.q (Qt.mv rfl) ?_
        refine RL.q ((by first | exact Qt.addI rfl rfl (by dsimp only [inK]; omega) | exact Qt.add rfl rfl)) ?_
        refine RL.q (Qt.as rfl) ?_
        refine RL.nil ?_
        -- stops: next
        have e1 : ((rIds l (levLv l x.id)).take (k + 1)).filter (fun a => decide (a ≠ x.id)) = ((rIds l (levLv l x.id)).take k).filter (fun a => decide (a ≠ x.id)) ++ [(rIds l (levLv l x.id))[k]] := by
          rw [htk, List.filter_append, List.filter_cons, if_pos (by simpa using h3), List.filter_nil]
        have hS := hS.pick [1, 2, 3, 4, 5, 6] (by decide) rfl
        have hS := hS.ownMk (cap := cap) (n := (rIds l (levLv l x.id)).length) (sz := 1) (cs := ints (rIds l (levLv l x.id))) 1 rfl hc1 hc2 hc3 hc4
        apply RE.lpN ((k + 1, .slice sp72 ((((rIds l (levLv l x.id)).take k).filter (fun a => decide (a ≠ x.id))).length + 1) cp72))
        case hI =>
          refine ⟨rfl, hlt, ?_⟩
          dsimp only
          have e2 : (((rIds l (levLv l x.id)).take (k + 1)).filter (fun a => decide (a ≠ x.id))).length = (((rIds l (levLv l x.id)).take k).filter (fun a => decide (a ≠ x.id))).length + 1 := by rw [e1, List.length_append]; rfl
          have e3 : ints (((rIds l (levLv l x.id)).take (k + 1)).filter (fun a => decide (a ≠ x.id))) = ints (((rIds l (levLv l x.id)).take k).filter (fun a => decide (a ≠ x.id))) ++ [.int .i64 (rIds l (levLv l x.id))[k]] := by rw [e1, ints, List.map_append]; rfl
          unfold ownI
          rw [e2, e3]
          exact hS
        case hs => (repeat (first | exact Sub.nil | refine Sub.cons rfl ?_))
        case hm =>
          show (rIds l (levLv l x.id)).length - (k + 1) < (rIds l (levLv l x.id)).length - k
          omega
      · refine RC.skip ?_
        refine RE.bkN ?_
        refine RE.sqN ?_
        refine RC.region rfl ?_
        refine RL.q (Qt.mv rfl) ?_
        refine RL.q ((by first | exact Qt.addI rfl rfl (by dsimp only [inK]; omega) | exact Qt.add rfl rfl)) ?_
        refine RL.q (Qt.as rfl) ?_
        refine RL.nil ?_
        -- stops: next
        have h3 : (rIds l (levLv l x.id))[k] = x.id := Classical.not_not.1 (of_decide_eq_false h3)
        have e1 : ((rIds l (levLv l x.id)).take (k + 1)).filter (fun a => decide (a ≠ x.id)) = ((rIds l (levLv l x.id)).take k).filter (fun a => decide (a ≠ x.id)) := by
          rw [htk, List.filter_append, List.filter_cons, if_neg (by simpa using h3), List.filter_nil, List.append_nil]
        apply RE.lpN ((k + 1, wv))
        case hI => exact ⟨rfl, hlt, by dsimp only; rw [e1]; exact hS0.drew⟩
        case hs => (repeat (first | exact Sub.nil | refine Sub.cons rfl ?_))
        case hm =>
          show (rIds l (levLv l x.id)).length - (k + 1) < (rIds l (levLv l x.id)).length - k
          omega
    · skip
      have hge : k = (rIds l (levLv l x.id)).length := by
        have : ¬ k < (rIds l (levLv l x.id)).length := by simpa using h2
        omega
      rw [hge, List.take_length, ← hri] at hS
      refine RC.exit ?_
      refine RE.sqX ?_
      refine RE.lpX ?_
      refine RE.bkX ?_
      refine RE.sqN ?_
      refine RC.seq ?_
      refine RC.region rfl ?_
      refine RL.q (Qt.mv rfl) ?_
      refine RL.q (Qt.fld rfl) ?_
      refine RL.q (Qt.ld rfl (by first | exact hS.at 0 rfl | exact hS.at 1 rfl | exact hS.at 2 rfl | exact hS.at 3 rfl | exact hS.at 4 rfl | exact hS.at 5 rfl) (by first  | rfl)) ?_
      -- stops: op call
      refine RL.e (Ef.call hS (bqLevelT p _ _ x.id) rfl rfl Try.call21 [2] [0, 1, 3, 4, 5] (by decide) rfl rfl) ?_
      rintro v77 w ⟨ps, ⟨rfl, rfl⟩, hS⟩
      refine RL.q (Qt.mv rfl) ?_
      refine RL.q (Qt.ext rfl rfl) ?_
      refine RL.q (Qt.ext rfl rfl) ?_
      refine RL.q (Qt.as rfl) ?_
      refine RL.q (Qt.as rfl) ?_
      refine RL.nil ?_
      refine RE.sqN ?_
      refine RC.seq ?_
      refine RC.region rfl ?_
      refine RL.q (Qt.mv rfl) ?_
      refine RL.q (Qt.eql rfl rfl) ?_
      refine RL.q (Qt.mv rfl) ?_
      refine RLG.start 82 true rfl ?_
      refine RLG.q rfl rfl rfl (fun _ => Qt.mv rfl) ?_
      refine RLG.q rfl rfl rfl (fun _ => Qt.not rfl) ?_
      refine RLG.and rfl rfl ?_
      refine RL.q (Qt.mv rfl) ?_
      -- stops: guard
      refine RL.q (Qt.mv rfl) ?_ (Runs.guard rfl rfl rfl (by simp [rat_without]))
      refine RL.q (Qt.mv rfl) ?_ (Runs.guard rfl rfl rfl (by simp [rat_without]))
      -- stops: op call
      refine RL.e (Ef.call hS (bqListP p _ _ (levLv l x.id) hlv) rfl rfl Try.call18 [0] [1, 2, 3, 4, 5] (by decide) rfl rfl) ?_ (Runs.guard rfl rfl rfl (by simp [rat_without]))
      rintro v89 w ⟨ps, rfl, hS⟩
      refine RL.q (Qt.mv rfl) ?_ (Runs.guard rfl rfl rfl (by simp [rat_without]))
      -- stops: op call
      have hwl : (rWithout l x.id).length ≤ l.length := List.length_filter_le _ _
      have hrl2 := rIds_length_le (rWithout l x.id) (levLv l x.id)
      refine RL.e (Ef.call hS (rSame _ _ (rIds (rWithout l x.id) (levLv l x.id)) (rIds (rWithout l x.id) (levLv l x.id)) (by omega)) rfl rfl Try.call23 [0, 2] [1, 3, 4, 5, 6] (by decide) rfl rfl) ?_ (Runs.guard rfl rfl rfl (by simp [rat_without]))
      rintro v91 w ⟨ps, ⟨rfl, rfl⟩, hS⟩
      refine RL.q ((by first | exact Qt.pickT rfl (by assumption) rfl | exact Qt.pickF rfl (by assumption) rfl | exact Qt.pickT rfl rfl rfl | exact Qt.pickF rfl rfl rfl | exact Qt.pickT rfl (by simp [rat_without]) rfl)) ?_
      refine RL.q (Qt.mv rfl) ?_
      -- stops: guard
      refine RL.q (Qt.mv rfl) ?_ (Runs.guard rfl rfl rfl (by simp []))
      refine RL.q (Qt.mv rfl) ?_ (Runs.guard rfl rfl rfl (by simp []))
      refine RL.q (Qt.fld rfl) ?_ (Runs.guard rfl rfl rfl (by simp []))
      refine RL.q (Qt.ld rfl (by first | exact hS.at 0 rfl | exact hS.at 1 rfl | exact hS.at 2 rfl | exact hS.at 3 rfl | exact hS.at 4 rfl) (by first  | rfl)) ?_ (Runs.guard rfl rfl rfl (by simp []))
      -- stops: op call
      refine RL.e (Ef.call hS (bqPush p _ _ (levLv l x.id) x.id hlv) rfl rfl Try.call17 [0] [1, 2, 3, 4] (by decide) rfl rfl) ?_ (Runs.guard rfl rfl rfl (by simp []))
      rintro v98 w ⟨ps, ⟨rfl, rfl⟩, hS⟩
      refine RL.q (Qt.eql rfl rfl) ?_ (Runs.guard rfl rfl rfl (by simp []))
      refine RL.q ((by first | exact Qt.pickT rfl (by assumption) rfl | exact Qt.pickF rfl (by assumption) rfl | exact Qt.pickT rfl rfl rfl | exact Qt.pickF rfl rfl rfl | exact Qt.pickT rfl (by simp []) rfl)) ?_
      refine RL.q (Qt.as rfl) ?_
      refine RL.nil ?_
      refine RE.sqN ?_
      refine RC.ret ?_
      -- stops: end ret
      refine RE.retB rfl ⟨?_, rfl⟩ (hS.pick [2, 4] (by decide) rfl)
      simp [oneOf, hp]
end Go.Proofs

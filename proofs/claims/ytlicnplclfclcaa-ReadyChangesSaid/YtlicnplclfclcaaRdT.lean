/- The law ReadyPuts answers true. -/
import Derived.Test.YtlicnplclfclcaaRdU
namespace Go.Proofs
open Go Go.Gx
variable {oo : World}

theorem kput_split (x : KItem) : ∀ {l : List KItem}, KSorted l → ∃ j, j ≤ l.length ∧ kput x l = l.take j ++ x :: l.drop j ∧ ∀ (i : Nat) (hi : i < l.length), kAbove x.k l[i].k = !decide (i < j)
  | [], _ => ⟨0, by simp, rfl, fun i hi => by simp at hi⟩
  | y :: t, h => by
    obtain ⟨h1, h2⟩ := List.pairwise_cons.1 h
    by_cases hlt : kAbove x.k y.k = true
    · refine ⟨0, by simp, by rw [kput, if_pos hlt]; rfl, fun i hi => ?_⟩
      have : kAbove x.k (y :: t)[i].k = true := by
        cases i with
        | zero => exact hlt
        | succ i => exact kAbove_trans hlt (h1 _ (List.getElem_mem _))
      rw [this]; simp
    · obtain ⟨j, a, b, c⟩ := kput_split x h2
      refine ⟨j + 1, by simp; omega, by rw [kput, if_neg hlt, b]; rfl, fun i hi => ?_⟩
      cases i with
      | zero => simpa using hlt
      | succ i =>
        have := c i (by simpa using hi)
        simp only [List.getElem_cons_succ, this]
        simp
theorem kput_at {x : KItem} {l : List KItem} {j : Nat} (h0 : j ≤ l.length) (h : kput x l = l.take j ++ x :: l.drop j) : ∃ hj : j < (kIds (kput x l)).length, (kIds (kput x l))[j] = x.id := by
  have hl : (kIds (kput x l)).length = l.length + 1 := by rw [kIds, List.length_map, kput_len]
  refine ⟨by omega, ?_⟩
  have h2 : j < (kput x l).length := by rw [kput_len]; omega
  have h1 : (kput x l)[j] = x := by
    simp only [h]
    rw [List.getElem_append_right (by simp; omega)]
    simp [Nat.min_eq_left h0]
  simp only [kIds, List.getElem_map, h1]
theorem if_step {j k : Nat} (h : k ≠ j) : (if j < k + 1 then (j : Int) else -1) = if j < k then (j : Int) else -1 := by
  by_cases e : j < k
  · rw [if_pos e, if_pos (by omega)]
  · rw [if_neg e, if_neg (by omega)]

set_option maxHeartbeats 4000000 in
theorem rdLawPuts (n : Int) (hn : 0 ≤ n ∧ n ≤ 255) (v : Value) (ds : List RDeed) (x : RDeed) (F0 : Frag) (hR : RDeedsAt v ds F0) (hd : ∀ x ∈ ds, x.ok) (hx : x.ok) : Ct Try.prog 15 #[.int .u8 n, v, x.val] [pin F0] (fun v' ps => v' = .bool true ∧ ps = [pin F0]) := by
  refine Ct.enter Try.func15 rfl (Nat.le_of_ble_eq_true rfl) ?_
  intro oo w R hS
  change RC _ _ _ _ _ _ [(0, _), (1, _), (2, _)] _
  have hkx : x.cells.toArray.extract (0 + 2) (0 + 2 + 3) = x.k.cells.toArray := rfl
  have hkw : ∀ k : KKey, (wr #[.bool false, .int .u64 0, .int .u8 0] 0 k.cells).extract 0 (0 + 3) = k.cells.toArray := fun k => rfl
  refine RC.seq ?_
  refine RC.region rfl ?_
  refine RL.e (Ef.box hS rfl) ?_
  rintro _ w ⟨b5, rfl, hS⟩
  try simp (disch := omega) only [List.set_cons_zero, List.set_cons_succ, cells_int, cells_bool, cells_ptr, cells_slice, cells_func, cells_agg, cells_map, cells_int', cells_bool', cells_ptr', cells_slice', cells_agg', cells_map', cells_func', Nat.zero_add, wr, List.setIfInBounds_toArray] at hS
  refine RL.q (Qt.as rfl) ?_
  refine RL.nil ?_
  refine RE.sqN ?_
  refine RC.seq ?_
  refine RC.region rfl ?_
  refine RL.q (Qt.mv rfl) ?_
  refine RL.q (Qt.mv rfl) ?_
  -- stops: op call
  refine RL.e (Ef.call hS (rdPlay n hn v ds F0 hR hd) rfl rfl Try.call44 [1] [0, 2] (by decide) rfl rfl) ?_
  rintro v20 w ⟨ps, ⟨b, r, l, rfl, hlm, rfl⟩, hS⟩
  refine RL.q (Qt.mv rfl) ?_
  refine RL.q (Qt.ext rfl rfl) ?_
  refine RL.q (Qt.ext rfl rfl) ?_
  refine RL.q (Qt.ext rfl rfl) ?_
  refine RL.q (Qt.as rfl) ?_
  refine RL.q (Qt.as rfl) ?_
  refine RL.q (Qt.as rfl) ?_
  refine RL.nil ?_
  refine RE.sqN ?_
  refine RC.seq ?_
  refine RC.seq ?_
  refine RC.region rfl ?_
  -- stops: op call
  refine RL.e (Ef.call hS (rdLive) rfl rfl Try.call45 [] [0, 1, 2, 3, 4] (by decide) rfl rfl) ?_
  rintro v24 w ⟨ps, ⟨rfl, p', l', rfl⟩, hS⟩
  refine RL.q (Qt.not rfl) ?_
  refine RL.q (Qt.mv rfl) ?_
  refine RLG.start 26 false rfl ?_
  refine RLG.q rfl rfl rfl (fun _ => Qt.mv rfl) ?_
  refine RLG.q rfl rfl rfl (fun _ => Qt.not rfl) ?_
  refine RLG.or rfl rfl ?_
  refine RL.nil ?_
  refine RE.sqN ?_
  -- stops: cond
  refine RC.condF rfl (rfl) ?_
  refine RC.skip ?_
  refine RE.sqN ?_
  refine RC.seq ?_
  refine RC.region rfl ?_
  refine RL.q (Qt.mv rfl) ?_
  -- stops: op call
  have hS := hS.pick [1, 2, 4, 3, 5] (by decide) rfl
  obtain ⟨hok, hn2⟩ := sO_ok hS
  have hlen := hok.lenLe
  have hpl : (kIds l).length = l.length := List.length_map _
  refine RL.e (Ef.call hS (rdList _ _ _ _ l) rfl rfl Try.call47 [0] [1, 2, 3, 4] (by decide) rfl rfl) ?_
  rintro v31 w ⟨ps, rfl, hS⟩
  refine RL.q (Qt.as rfl) ?_
  refine RL.nil ?_
  refine RE.sqN ?_
  refine RC.seq ?_
  refine RC.seq ?_
  refine RC.region rfl ?_
  refine RL.q (Qt.mv rfl) ?_
  refine RL.q (Qt.fld rfl) ?_
  refine RL.q (Qt.ld rfl (by first | exact hS.at 0 rfl | exact hS.at 1 rfl | exact hS.at 2 rfl | exact hS.at 3 rfl | exact hS.at 4 rfl | exact hS.at 5 rfl) (by first  | rfl)) ?_
  refine RL.q (Qt.fld rfl) ?_
  refine RL.q (Qt.ldA rfl (by first | exact hS.at 0 rfl | exact hS.at 1 rfl | exact hS.at 2 rfl | exact hS.at 3 rfl | exact hS.at 4 rfl | exact hS.at 5 rfl) (by first | exact hkx | exact hkw _ | rfl) (by first | exact Nat.le_of_ble_eq_true rfl | omega | (simp only [Array.size_map]; omega))) ?_
  -- stops: op call
  refine RL.e (Ef.call hS (rdPut _ _ _ _ l x.id x.k hx (by decide)) rfl rfl Try.call61 [1] [0, 2, 3, 4, 5] (by decide) rfl rfl) ?_
  rintro v37 w ⟨ps, ⟨rfl, rfl⟩, hS⟩
  refine RL.q (Qt.neq rfl rfl) ?_
  refine RL.nil ?_
  refine RE.sqN ?_
  -- stops: cond
  refine RC.cond rfl (fun h => ?_) (fun h => ?_)
  · skip
    have h : ¬ kPutErr l 10 (n % 10 + 1) x.id x.k = 0 := of_decide_eq_true h
    have hi : kPut l 10 (n % 10 + 1) x.id x.k = l := if_neg h
    rw [hi] at hS
    refine RC.seq ?_
    refine RC.region rfl ?_
    refine RL.q (Qt.mv rfl) ?_
    refine RL.q (Qt.mv rfl) ?_
    refine RL.q (Qt.fld rfl) ?_
    refine RL.q (Qt.ld rfl (by first | exact hS.at 0 rfl | exact hS.at 1 rfl | exact hS.at 2 rfl | exact hS.at 3 rfl | exact hS.at 4 rfl | exact hS.at 5 rfl) (by first  | rfl)) ?_
    -- stops: op call
    refine RL.e (Ef.call hS (rdSame _ r _ _ _ l x.id) rfl rfl Try.call46 [0, 2] [1, 3, 4, 5] (by decide) rfl rfl) ?_
    rintro v43 w ⟨ps, ⟨rfl, rfl⟩, hS⟩
    refine RL.q (Qt.as rfl) ?_
    refine RL.nil ?_
    refine RE.sqN ?_
    refine RC.ret ?_
    refine RE.sqR ?_
    -- stops: end ret
    exact RE.retB rfl ⟨rfl, rfl⟩ (hS.pick [4, 5] (by decide) rfl)
  · skip
    have h : kPutErr l 10 (n % 10 + 1) x.id x.k = 0 := Classical.not_not.1 (of_decide_eq_false h)
    obtain ⟨he, hm, hlt, hk⟩ : kErr l 10 x.id (kRight x.k) false = 0 ∧ x.id ∉ kIds l ∧ (l.length : Int) < n % 10 + 1 ∧ kPut l 10 (n % 10 + 1) x.id x.k = kput ⟨x.id, x.k⟩ l := by
      rcases kPut_cases l 10 (n % 10 + 1) x.id x.k with ⟨_, a1, a2, a3, a4⟩ | ⟨hp, _⟩ | ⟨hp, _⟩ | ⟨hp, _⟩
      · exact ⟨a1, a2, a3, a4⟩
      all_goals rw [h] at hp; cases hp
    obtain ⟨h0, hri, _⟩ := kErr_is0 he
    rw [hk] at hS
    have hok2 : KOk 10 (kput ⟨x.id, x.k⟩ l) := hok.put (x := ⟨x.id, x.k⟩) h0 hri hx hm
    obtain ⟨j, hj0, hj1, hj2⟩ := kput_split ⟨x.id, x.k⟩ hok.sorted
    obtain ⟨hjl, hjx⟩ := kput_at hj0 hj1
    have hmem : ∀ y ∈ l, y ∈ kput ⟨x.id, x.k⟩ l := fun y hy => (kput_perm _ l).mem_iff.2 (List.mem_cons_of_mem _ hy)
    have hmi : x.id ∈ kIds (kput ⟨x.id, x.k⟩ l) := List.mem_map.2 ⟨⟨x.id, x.k⟩, (kput_perm _ l).mem_iff.2 (by simp), rfl⟩
    have hml : (kIds (kput ⟨x.id, x.k⟩ l)).length = l.length + 1 := by rw [kIds, List.length_map, kput_len]
    have hnd2 := hok2.nodup
    have hro : kRem (kput ⟨x.id, x.k⟩ l) 10 x.id = l := by
      rw [kRem, if_pos (kErr_ok1 (by simp; omega) hmi)]
      exact kput_out (x := ⟨x.id, x.k⟩) hm
    have hre : kErr (kput ⟨x.id, x.k⟩ l) 10 x.id true true = 0 := kErr_ok1 (by simp; omega) hmi
    have hgk : ∀ (i : Nat) (hi : i < l.length), kGetK (kput ⟨x.id, x.k⟩ l) l[i].id = l[i].k := fun i hi => (kGetK_some hnd2 (hmem _ (List.getElem_mem hi))).1
    generalize hmm : kput ⟨x.id, x.k⟩ l = m at *
    refine RC.skip ?_
    refine RE.sqN ?_
    refine RC.seq ?_
    refine RC.region rfl ?_
    refine RL.q (Qt.mv rfl) ?_
    -- stops: op call
    refine RL.e (Ef.call hS (rdList _ _ _ _ m) rfl rfl Try.call47 [0] [1, 2, 3, 4, 5] (by decide) rfl rfl) ?_
    rintro v45 w ⟨ps, rfl, hS⟩
    refine RL.q (Qt.as rfl) ?_
    refine RL.nil ?_
    refine RE.sqN ?_
    refine RC.seq ?_
    refine RC.region rfl ?_
    refine RL.q (Qt.as rfl) ?_
    refine RL.nil ?_
    refine RE.sqN ?_
    refine RC.seq ?_
    refine RC.seq ?_
    refine RC.region rfl ?_
    refine RL.q (Qt.as rfl) ?_
    refine RL.nil ?_
    refine RE.sqN ?_
    refine RC.block ?_
    -- stops: loop
    obtain ⟨sp2, cp2, rfl⟩ := hS.ownForm 0 rfl
    obtain ⟨sp1, cp1, rfl⟩ := hS.ownForm 2 rfl
    refine RC.loop (γ := Nat) (fun k E w' => E = [(13, .int .i64 k), (12, .int .i64 (if j < k then (j : Int) else -1)), (11, .slice sp2 (kIds m).length cp2), (10, .slice sp1 (kIds l).length cp1), (5, .pointer (some ⟨b5, 0, none⟩)), (7, .pointer (some ⟨b, 0, none⟩)), (8, r)] ∧ k ≤ (kIds m).length ∧ Sat oo w' [ownI (.slice sp2 (kIds m).length cp2) (kIds m), sO (.pointer (some ⟨b, 0, none⟩)) 10 (n % 10 + 1) (80 + 1) m, ownI (.slice sp1 (kIds l).length cp1) (kIds l), rsO r 10 (n % 10 + 1) l, pt b5 (.cells x.cells.toArray 77 (0, 0)), pin F0, R]) (fun k => (kIds m).length - k) 0 _ (by (repeat (first | exact Sub.nil | refine Sub.cons rfl ?_))) ⟨rfl, by omega, hS⟩ ?_
    clear hS
    rintro k E w ⟨rfl, hkl, hS⟩
    refine RC.seq ?_
    refine RC.seq ?_
    refine RC.region rfl ?_
    refine RL.q (Qt.mv rfl) ?_
    refine RL.q (Qt.mv rfl) ?_
    refine RL.q (Qt.lenS rfl) ?_
    refine RL.q (Qt.lss rfl rfl) ?_
    refine RL.nil ?_
    refine RE.sqN ?_
    -- stops: cond
    refine RC.cond rfl (fun h2 => ?_) (fun h2 => ?_)
    · skip
      have hlt2 : k < (kIds m).length := by simpa using h2
      obtain ⟨bs, cap', c, hv, hc1, hc2, hc3, hc4, hS⟩ := hS.ownPos 0 rfl (by omega)
      cases hv
      refine RC.skip ?_
      refine RE.sqN ?_
      refine RC.seq ?_
      refine RC.block ?_
      refine RC.seq ?_
      refine RC.drawn 7 [0, 1, 2, 3, 4, 5, 6] (Same _) (by kernel_rfl) (by kernel_rfl) Same.drew (fun hh => ?_)
      replace hS := hS.drew
      refine RH.q hh (Calm.sq (Calm.bk (Calm.sq (Calm.lp (Calm.bk (Calm.sq Calm.body)))))) rfl (by kernel_rfl) (Qt.mv rfl) ?_
      refine RH.q hh (Calm.sq (Calm.bk (Calm.sq (Calm.lp (Calm.bk (Calm.sq Calm.body)))))) rfl (by kernel_rfl) (Qt.mv rfl) ?_
      refine RH.q hh (Calm.sq (Calm.bk (Calm.sq (Calm.lp (Calm.bk (Calm.sq Calm.body)))))) rfl (by kernel_rfl) (Qt.ixS rfl rfl (by first | assumption | omega | (dsimp only; omega)) (by first | assumption | omega | (dsimp only; omega))) ?_
      refine RH.q hh (Calm.sq (Calm.bk (Calm.sq (Calm.lp (Calm.bk (Calm.sq Calm.body)))))) rfl (by kernel_rfl) (Qt.ld rfl (by first | exact hS.at 0 rfl | exact hS.at 1 rfl | exact hS.at 2 rfl | exact hS.at 3 rfl | exact hS.at 4 rfl | exact hS.at 5 rfl | exact hS.at 6 rfl) (by first | exact int_cell hc4 rfl hlt2 | rfl)) ?_
      refine RH.q hh (Calm.sq (Calm.bk (Calm.sq (Calm.lp (Calm.bk (Calm.sq Calm.body)))))) rfl (by kernel_rfl) (Qt.fld rfl) ?_
      refine RH.q hh (Calm.sq (Calm.bk (Calm.sq (Calm.lp (Calm.bk (Calm.sq Calm.body)))))) rfl (by kernel_rfl) (Qt.ld rfl (by first | exact hS.at 0 rfl | exact hS.at 1 rfl | exact hS.at 2 rfl | exact hS.at 3 rfl | exact hS.at 4 rfl | exact hS.at 5 rfl | exact hS.at 6 rfl) (by first | exact int_cell hc4 rfl hlt2 | rfl)) ?_
      refine RH.q hh (Calm.sq (Calm.bk (Calm.sq (Calm.lp (Calm.bk (Calm.sq Calm.body)))))) rfl (by kernel_rfl) (Qt.eql rfl rfl) ?_
      refine RH.done hh (by kernel_rfl) ?_
      refine RL.nil ?_
      refine RE.sqN ?_
      -- stops: cond
      have hS := hS.ownMk (cap := cp2) (n := (kIds m).length) (sz := 1) (cs := ints (kIds m)) 0 rfl hc1 hc2 hc3 hc4
      refine RC.cond rfl (fun h3 => ?_) (fun h3 => ?_)
      · refine RC.region rfl ?_
        refine RL.q (Qt.mv rfl) ?_
        refine RL.q (Qt.as rfl) ?_
        refine RL.nil ?_
        refine RE.bkN ?_
        refine RE.sqN ?_
        refine RC.region rfl ?_
        refine RL.q (Qt.mv rfl) ?_
        refine RL.q ((by first | exact Qt.addI rfl rfl (by dsimp only [inK]; omega) | exact Qt.add rfl rfl)) ?_
        refine RL.q (Qt.as rfl) ?_
        refine RL.nil ?_
        -- stops: next
        have h3 : (kIds m)[k] = x.id := of_decide_eq_true h3
        have hkj : k = j := nodup_inj hnd2 hlt2 hjl (by rw [h3, hjx])
        apply RE.lpN (k + 1)
        case hI => exact ⟨by rw [if_pos (by omega), ← hkj], hlt2, hS⟩
        case hs => (repeat (first | exact Sub.nil | refine Sub.cons rfl ?_))
        case hm =>
          show (kIds m).length - (k + 1) < (kIds m).length - k
          omega
      · refine RC.skip ?_
        refine RE.bkN ?_
        refine RE.sqN ?_
        refine RC.region rfl ?_
        refine RL.q (Qt.mv rfl) ?_
        refine RL.q ((by first | exact Qt.addI rfl rfl (by dsimp only [inK]; omega) | exact Qt.add rfl rfl)) ?_
        refine RL.q (Qt.as rfl) ?_
        refine RL.nil ?_
        -- stops: next
        have h3 : ¬ (kIds m)[k] = x.id := of_decide_eq_false h3
        have hkj : k ≠ j := fun e => h3 (by subst e; exact hjx)
        apply RE.lpN (k + 1)
        case hI => exact ⟨by rw [if_step hkj], hlt2, hS⟩
        case hs => (repeat (first | exact Sub.nil | refine Sub.cons rfl ?_))
        case hm =>
          show (kIds m).length - (k + 1) < (kIds m).length - k
          omega
    · skip
      have hge : ¬ k < (kIds m).length := by simpa using h2
      rw [if_pos (show j < k by omega)]
      refine RC.exit ?_
      refine RE.sqX ?_
      refine RE.lpX ?_
      refine RE.bkX ?_
      refine RE.sqN ?_
      refine RC.seq ?_
      refine RC.seq ?_
      refine RC.region rfl ?_
      refine RL.q (Qt.mv rfl) ?_
      refine RL.q (Qt.lss rfl rfl) ?_
      refine RL.q (Qt.mv rfl) ?_
      refine RLG.start 62 false rfl ?_
      refine RLG.q rfl rfl rfl (fun _ => Qt.mv rfl) ?_
      refine RLG.q rfl rfl rfl (fun _ => Qt.lenS rfl) ?_
      refine RLG.q rfl rfl rfl (fun _ => Qt.mv rfl) ?_
      refine RLG.q rfl rfl rfl (fun _ => Qt.lenS rfl) ?_
      refine RLG.q rfl rfl rfl (fun hg => by (try simp only [decide_eq_false_iff_not] at hg); exact (by first | exact Qt.addI rfl rfl (by dsimp only [inK]; omega) | exact Qt.add rfl rfl)) ?_
      refine RLG.q rfl rfl rfl (fun hg => by (try simp only [decide_eq_false_iff_not] at hg); exact Qt.neq rfl rfl) ?_
      refine RLG.or rfl rfl ?_
      refine RL.nil ?_
      refine RE.sqN ?_
      -- stops: cond
      refine RC.condF rfl (by simp; omega) ?_
      refine RC.skip ?_
      refine RE.sqN ?_
      refine RC.seq ?_
      refine RC.seq ?_
      refine RC.region rfl ?_
      refine RL.q (Qt.as rfl) ?_
      refine RL.nil ?_
      refine RE.sqN ?_
      refine RC.block ?_
      -- stops: loop
      have hS := hS.pick [1, 2, 3, 4, 5, 6] (by decide) rfl
      refine RC.loop (γ := Nat) (fun i E w' => E = [(14, .int .i64 i), (12, .int .i64 j), (10, .slice sp1 (kIds l).length cp1), (5, .pointer (some ⟨b5, 0, none⟩)), (7, .pointer (some ⟨b, 0, none⟩)), (8, r)] ∧ i ≤ (kIds l).length ∧ Sat oo w' [sO (.pointer (some ⟨b, 0, none⟩)) 10 (n % 10 + 1) (80 + 1) m, ownI (.slice sp1 (kIds l).length cp1) (kIds l), rsO r 10 (n % 10 + 1) l, pt b5 (.cells x.cells.toArray 77 (0, 0)), pin F0, R]) (fun i => (kIds l).length - i) 0 _ (by (repeat (first | exact Sub.nil | refine Sub.cons rfl ?_))) ⟨rfl, by omega, hS⟩ ?_
      clear hS
      rintro i E w ⟨rfl, hil, hS⟩
      refine RC.seq ?_
      refine RC.seq ?_
      refine RC.region rfl ?_
      refine RL.q (Qt.mv rfl) ?_
      refine RL.q (Qt.mv rfl) ?_
      refine RL.q (Qt.lenS rfl) ?_
      refine RL.q (Qt.lss rfl rfl) ?_
      refine RL.nil ?_
      refine RE.sqN ?_
      -- stops: cond
      refine RC.cond rfl (fun h4 => ?_) (fun h4 => ?_)
      · skip
        have hlt2 : i < (kIds l).length := by simpa using h4
        have hlt3 : i < l.length := by omega
        have hg : (kIds l)[i] = l[i].id := by simp [kIds]
        obtain ⟨bs, cap', c, hv, hc1, hc2, hc3, hc4, hS⟩ := hS.ownPos 1 rfl (by omega)
        cases hv
        have hck : c.toList[0 + ((i : Nat) : Int).toNat * 1]? = some (.int .i64 l[i].id) := by rw [int_cell hc4 rfl hlt2, hg]
        refine RC.skip ?_
        refine RE.sqN ?_
        refine RC.seq ?_
        refine RC.block ?_
        refine RC.seq ?_
        refine RC.region rfl ?_
        refine RL.q (Qt.mv rfl) ?_
        refine RL.q (Qt.mv rfl) ?_
        refine RL.q (Qt.mv rfl) ?_
        refine RL.q (Qt.ixS rfl rfl (by first | assumption | omega | (dsimp only; omega)) (by first | assumption | omega | (dsimp only; omega))) ?_
        refine RL.q (Qt.ld rfl (by first | exact hS.at 0 rfl | exact hS.at 1 rfl | exact hS.at 2 rfl | exact hS.at 3 rfl | exact hS.at 4 rfl | exact hS.at 5 rfl) (by first | exact hck | rfl)) ?_
        -- stops: op call
        refine RL.e (Ef.call hS (rdKey _ _ _ _ m l[i].id) rfl rfl Try.call59 [0] [1, 2, 3, 4, 5] (by decide) rfl rfl) ?_
        rintro v82 w ⟨ps, ⟨rfl, rfl⟩, hS⟩
        rw [hgk i hlt3]
        refine RL.q (Qt.mv rfl) ?_
        refine RL.q (Qt.ext rfl rfl) ?_
        refine RL.q (Qt.ext rfl rfl) ?_
        refine RL.e (Ef.alloc hS) ?_
        rintro _ w ⟨b15, rfl, hS⟩
        try simp (disch := omega) only [cells_agg'] at hS
        first | refine RL.e0 (Ef.st hS 0 rfl rfl rfl (by rfl) (by rfl) (by first | exact Nat.le_of_ble_eq_true rfl | omega | (simp only [Array.size_map]; omega))) ?_ | refine RL.e0 (Ef.st hS 1 rfl rfl rfl (by rfl) (by rfl) (by first | exact Nat.le_of_ble_eq_true rfl | omega | (simp only [Array.size_map]; omega))) ?_ | refine RL.e0 (Ef.st hS 2 rfl rfl rfl (by rfl) (by rfl) (by first | exact Nat.le_of_ble_eq_true rfl | omega | (simp only [Array.size_map]; omega))) ?_ | refine RL.e0 (Ef.st hS 3 rfl rfl rfl (by rfl) (by rfl) (by first | exact Nat.le_of_ble_eq_true rfl | omega | (simp only [Array.size_map]; omega))) ?_ | refine RL.e0 (Ef.st hS 4 rfl rfl rfl (by rfl) (by rfl) (by first | exact Nat.le_of_ble_eq_true rfl | omega | (simp only [Array.size_map]; omega))) ?_ | refine RL.e0 (Ef.st hS 5 rfl rfl rfl (by rfl) (by rfl) (by first | exact Nat.le_of_ble_eq_true rfl | omega | (simp only [Array.size_map]; omega))) ?_ | refine RL.e0 (Ef.st hS 6 rfl rfl rfl (by rfl) (by rfl) (by first | exact Nat.le_of_ble_eq_true rfl | omega | (simp only [Array.size_map]; omega))) ?_
        intro _ w hS
        simp (disch := omega) only [List.set_cons_zero, cells_agg'] at hS
        refine RL.q (Qt.as rfl) ?_
        refine RL.nil ?_
        refine RE.sqN ?_
        refine RC.seq ?_
        refine RC.region rfl ?_
        refine RL.q (Qt.mv rfl) ?_
        refine RL.q (Qt.mv rfl) ?_
        refine RL.q (Qt.lss rfl rfl) ?_
        refine RL.q (Qt.fld rfl) ?_
        refine RL.q (Qt.ldA rfl (by first | exact hS.at 0 rfl | exact hS.at 1 rfl | exact hS.at 2 rfl | exact hS.at 3 rfl | exact hS.at 4 rfl | exact hS.at 5 rfl | exact hS.at 6 rfl) (by first | exact hkx | exact hkw _ | rfl) (by first | exact Nat.le_of_ble_eq_true rfl | omega | (simp only [Array.size_map]; omega))) ?_
        refine RL.q (Qt.ldA rfl (by first | exact hS.at 0 rfl | exact hS.at 1 rfl | exact hS.at 2 rfl | exact hS.at 3 rfl | exact hS.at 4 rfl | exact hS.at 5 rfl | exact hS.at 6 rfl) (by first | exact hkx | exact hkw _ | rfl) (by first | exact Nat.le_of_ble_eq_true rfl | omega | (simp only [Array.size_map]; omega))) ?_
        -- stops: op call
        refine RL.e (Ef.call hS (rkAbove x.k l[i].k) rfl rfl Try.call49 [] [0, 1, 2, 3, 4, 5, 6] (by decide) rfl rfl) ?_
        rintro v91 w ⟨ps, ⟨rfl, rfl⟩, hS⟩
        try rw [List.nil_append] at hS
        refine RL.q (Qt.eqlB rfl rfl) ?_
        refine RL.nil ?_
        refine RE.sqN ?_
        -- stops: cond
        have hab := hj2 i hlt3
        have hc : decide (decide ((i : Int) < (j : Int)) = kAbove x.k l[i].k) = false := by
          have hab : kAbove x.k l[i].k = !decide (i < j) := hab
          rw [hab]
          by_cases hij : i < j <;> simp [hij]
        refine RC.condF rfl (hc) ?_
        refine RC.skip ?_
        refine RE.bkN ?_
        refine RE.sqN ?_
        refine RC.region rfl ?_
        refine RL.q (Qt.mv rfl) ?_
        refine RL.q ((by first | exact Qt.addI rfl rfl (by dsimp only [inK]; omega) | exact Qt.add rfl rfl)) ?_
        refine RL.q (Qt.as rfl) ?_
        refine RL.nil ?_
        -- stops: next
        have hS := (hS.pick [1, 2, 3, 4, 5, 6] (by decide) rfl).ownMk (cap := cp1) (n := (kIds l).length) (sz := 1) (cs := ints (kIds l)) 1 rfl hc1 hc2 hc3 hc4
        apply RE.lpN (i + 1)
        case hI => exact ⟨rfl, hlt2, hS⟩
        case hs => (repeat (first | exact Sub.nil | refine Sub.cons rfl ?_))
        case hm =>
          show (kIds l).length - (i + 1) < (kIds l).length - i
          omega
      · skip
        refine RC.exit ?_
        refine RE.sqX ?_
        refine RE.lpX ?_
        refine RE.bkX ?_
        refine RE.sqN ?_
        refine RC.seq ?_
        refine RC.region rfl ?_
        refine RL.q (Qt.mv rfl) ?_
        refine RL.q (Qt.fld rfl) ?_
        refine RL.q (Qt.ld rfl (by first | exact hS.at 0 rfl | exact hS.at 1 rfl | exact hS.at 2 rfl | exact hS.at 3 rfl | exact hS.at 4 rfl | exact hS.at 5 rfl) (by first  | rfl)) ?_
        -- stops: op call
        refine RL.e (Ef.call hS (rdRemove _ _ _ _ m x.id) rfl rfl Try.call62 [0] [1, 2, 3, 4, 5] (by decide) rfl rfl) ?_
        rintro v96 w ⟨ps, ⟨rfl, rfl⟩, hS⟩
        rw [hro] at hS
        rw [hre]
        refine RL.q (Qt.eql rfl rfl) ?_
        refine RL.q (Qt.mv rfl) ?_
        -- stops: guard
        refine RL.q (Qt.mv rfl) ?_ (Runs.guard rfl rfl rfl (rfl))
        refine RL.q (Qt.mv rfl) ?_ (Runs.guard rfl rfl rfl (rfl))
        refine RL.q (Qt.fld rfl) ?_ (Runs.guard rfl rfl rfl (rfl))
        refine RL.q (Qt.ld rfl (by first | exact hS.at 0 rfl | exact hS.at 1 rfl | exact hS.at 2 rfl | exact hS.at 3 rfl | exact hS.at 4 rfl | exact hS.at 5 rfl) (by first  | rfl)) ?_ (Runs.guard rfl rfl rfl (rfl))
        -- stops: op call
        refine RL.e (Ef.call hS (rdSame _ r _ _ _ l x.id) rfl rfl Try.call46 [0, 2] [1, 3, 4, 5] (by decide) rfl rfl) ?_ (Runs.guard rfl rfl rfl (rfl))
        rintro v103 w ⟨ps, ⟨rfl, rfl⟩, hS⟩
        refine RL.q ((by first | exact Qt.pickT rfl (by assumption) rfl | exact Qt.pickF rfl (by assumption) rfl | exact Qt.pickT rfl rfl rfl | exact Qt.pickF rfl rfl rfl)) ?_
        refine RL.q (Qt.as rfl) ?_
        refine RL.nil ?_
        refine RE.sqN ?_
        refine RC.ret ?_
        -- stops: end ret
        exact RE.retB rfl ⟨rfl, rfl⟩ (hS.pick [4, 5] (by decide) rfl)
end Go.Proofs

/- The law ReadyChanges answers true. -/
import Derived.Test.YtlicnplclfclcaaRdT
namespace Go.Proofs
open Go Go.Gx
variable {oo : World}

theorem kput_ab {x : KItem} {l : List KItem} {j : Nat} (h0 : j ≤ l.length) (h : kput x l = l.take j ++ x :: l.drop j) (hab : ∀ (i : Nat) (hi : i < l.length), kAbove x.k l[i].k = !decide (i < j)) : ∀ (i : Nat) (hi : i < (kput x l).length), i ≠ j → kAbove x.k (kput x l)[i].k = decide (j < i) := by
  intro i hi hij
  have hl := kput_len x l
  rcases Nat.lt_or_gt_of_ne hij with hlt | hgt
  · have e : (kput x l)[i] = l[i]'(by omega) := by
      simp only [h]
      rw [List.getElem_append_left (by simp; omega), List.getElem_take]
    rw [e, hab i (by omega), decide_eq_true hlt, decide_eq_false (show ¬ j < i by omega)]; rfl
  · have e : (kput x l)[i] = l[i - 1]'(by omega) := by
      obtain ⟨m, rfl⟩ : ∃ m, i = j + 1 + m := ⟨i - (j + 1), by omega⟩
      simp only [h]
      rw [List.getElem_append_right (by simp; omega)]
      simp only [List.length_take, Nat.min_eq_left h0, show j + 1 + m - j = m + 1 by omega, List.getElem_cons_succ, List.getElem_drop]
      congr 1; omega
    rw [e, hab (i - 1) (by omega), decide_eq_false (show ¬ i - 1 < j by omega), decide_eq_true (show j < i by omega)]; rfl

set_option maxHeartbeats 4000000 in
theorem rdLawChanges (n : Int) (hn : 0 ≤ n ∧ n ≤ 255) (v : Value) (ds : List RDeed) (x : RDeed) (F0 : Frag) (hR : RDeedsAt v ds F0) (hd : ∀ x ∈ ds, x.ok) (hx : x.ok) : Ct Try.prog 13 #[.int .u8 n, v, x.val] [pin F0] (fun v' ps => v' = .bool true ∧ ps = [pin F0]) := by
  refine Ct.enter Try.func13 rfl (Nat.le_of_ble_eq_true rfl) ?_
  intro oo w R hS
  change RC _ _ _ _ _ _ [(0, _), (1, _), (2, _)] _
  have hkx : x.cells.toArray.extract (0 + 2) (0 + 2 + 3) = x.k.cells.toArray := rfl
  have hkw : ∀ k : KKey, (wr #[.bool false, .int .u64 0, .int .u8 0] 0 k.cells).extract 0 (0 + 3) = k.cells.toArray := fun k => rfl
  refine RC.seq ?_
  refine RC.region rfl ?_
  refine RL.e (Ef.box hS rfl) ?_
  rintro _ w ⟨b5, rfl, hS⟩
  try simp (disch := omega) only [List.set_cons_zero, List.set_cons_succ, cells_int, cells_bool, cells_ptr, cells_slice, cells_func, cells_agg, cells_map, cells_int', cells_bool', cells_ptr', cells_slice', cells_agg', cells_map', cells_func', Nat.zero_add, wr, List.setIfInBounds_toArray] at hS
  refine RL.q (Qt.as rfl) ?_
  refine RL.nil ?_
  refine RE.sqN ?_
  refine RC.seq ?_
  refine RC.region rfl ?_
  refine RL.q (Qt.mv rfl) ?_
  refine RL.q (Qt.mv rfl) ?_
  -- stops: op call
  refine RL.e (Ef.call hS (rdPlay n hn v ds F0 hR hd) rfl rfl Try.call44 [1] [0, 2] (by decide) rfl rfl) ?_
  rintro v22 w ⟨ps, ⟨b, r, l, rfl, hlm, rfl⟩, hS⟩
  refine RL.q (Qt.mv rfl) ?_
  refine RL.q (Qt.ext rfl rfl) ?_
  refine RL.q (Qt.ext rfl rfl) ?_
  refine RL.q (Qt.ext rfl rfl) ?_
  refine RL.q (Qt.as rfl) ?_
  refine RL.q (Qt.as rfl) ?_
  refine RL.q (Qt.as rfl) ?_
  refine RL.nil ?_
  refine RE.sqN ?_
  refine RC.seq ?_
  refine RC.seq ?_
  refine RC.region rfl ?_
  -- stops: op call
  refine RL.e (Ef.call hS (rdLive) rfl rfl Try.call45 [] [0, 1, 2, 3, 4] (by decide) rfl rfl) ?_
  rintro v26 w ⟨ps, ⟨rfl, p', l', rfl⟩, hS⟩
  refine RL.q (Qt.not rfl) ?_
  refine RL.q (Qt.mv rfl) ?_
  refine RLG.start 28 false rfl ?_
  refine RLG.q rfl rfl rfl (fun _ => Qt.mv rfl) ?_
  refine RLG.q rfl rfl rfl (fun _ => Qt.not rfl) ?_
  refine RLG.or rfl rfl ?_
  refine RL.nil ?_
  refine RE.sqN ?_
  -- stops: cond
  refine RC.condF rfl (rfl) ?_
  refine RC.skip ?_
  refine RE.sqN ?_
  refine RC.seq ?_
  refine RC.region rfl ?_
  refine RL.q (Qt.mv rfl) ?_
  refine RL.q (Qt.fld rfl) ?_
  refine RL.q (Qt.ld rfl (by first | exact hS.at 0 rfl | exact hS.at 1 rfl | exact hS.at 2 rfl | exact hS.at 3 rfl | exact hS.at 4 rfl | exact hS.at 5 rfl) (by first  | rfl)) ?_
  -- stops: op call
  have hS := hS.pick [1, 2, 4, 3, 5] (by decide) rfl
  obtain ⟨hok, hn2⟩ := sO_ok hS
  have hlen := hok.lenLe
  refine RL.e (Ef.call hS (rdKey _ _ _ _ l x.id) rfl rfl Try.call59 [0] [1, 2, 3, 4] (by decide) rfl rfl) ?_
  rintro v36 w ⟨ps, ⟨rfl, rfl⟩, hS⟩
  refine RL.q (Qt.mv rfl) ?_
  refine RL.q (Qt.ext rfl rfl) ?_
  refine RL.q (Qt.ext rfl rfl) ?_
  refine RL.e (Ef.alloc hS) ?_
  rintro _ w ⟨b10, rfl, hS⟩
  try simp (disch := omega) only [cells_agg'] at hS
  first | refine RL.e0 (Ef.st hS 0 rfl rfl rfl (by rfl) (by rfl) (by first | exact Nat.le_of_ble_eq_true rfl | omega | (simp only [Array.size_map]; omega))) ?_ | refine RL.e0 (Ef.st hS 1 rfl rfl rfl (by rfl) (by rfl) (by first | exact Nat.le_of_ble_eq_true rfl | omega | (simp only [Array.size_map]; omega))) ?_ | refine RL.e0 (Ef.st hS 2 rfl rfl rfl (by rfl) (by rfl) (by first | exact Nat.le_of_ble_eq_true rfl | omega | (simp only [Array.size_map]; omega))) ?_ | refine RL.e0 (Ef.st hS 3 rfl rfl rfl (by rfl) (by rfl) (by first | exact Nat.le_of_ble_eq_true rfl | omega | (simp only [Array.size_map]; omega))) ?_ | refine RL.e0 (Ef.st hS 4 rfl rfl rfl (by rfl) (by rfl) (by first | exact Nat.le_of_ble_eq_true rfl | omega | (simp only [Array.size_map]; omega))) ?_ | refine RL.e0 (Ef.st hS 5 rfl rfl rfl (by rfl) (by rfl) (by first | exact Nat.le_of_ble_eq_true rfl | omega | (simp only [Array.size_map]; omega))) ?_
  intro _ w hS
  simp (disch := omega) only [List.set_cons_zero, cells_agg'] at hS
  refine RL.q (Qt.as rfl) ?_
  refine RL.nil ?_
  refine RE.sqN ?_
  refine RC.seq ?_
  refine RC.seq ?_
  refine RC.region rfl ?_
  refine RL.q (Qt.mv rfl) ?_
  refine RL.q (Qt.not rfl) ?_
  refine RL.nil ?_
  refine RE.sqN ?_
  -- stops: cond
  refine RC.cond rfl (fun h => ?_) (fun h => ?_)
  · skip
    have hm : x.id ∉ kIds l := by simpa [kGetOk] using h
    have hor : kErr l 10 x.id (kRight x.k) true = 2 ∨ kErr l 10 x.id (kRight x.k) true = 6 := by
      by_cases hr : x.id < 0 ∨ x.id ≥ (10 : Nat) ∨ kRight x.k = false
      · exact .inl (kErr_range hr)
      · exact .inr (kErr_none hr hm)
    have hk : kChg l 10 x.id x.k = l := by
      rw [kChg, if_neg]
      intro e
      rcases hor with g | g <;> rw [g] at e <;> exact absurd e.1 (by decide)
    refine RC.seq ?_
    refine RC.region rfl ?_
    refine RL.q (Qt.mv rfl) ?_
    refine RL.q (Qt.fld rfl) ?_
    refine RL.q (Qt.ld rfl (by first | exact hS.at 0 rfl | exact hS.at 1 rfl | exact hS.at 2 rfl | exact hS.at 3 rfl | exact hS.at 4 rfl | exact hS.at 5 rfl) (by first  | rfl)) ?_
    refine RL.q (Qt.fld rfl) ?_
    refine RL.q (Qt.ldA rfl (by first | exact hS.at 0 rfl | exact hS.at 1 rfl | exact hS.at 2 rfl | exact hS.at 3 rfl | exact hS.at 4 rfl | exact hS.at 5 rfl) (by first | exact hkx | exact hkw _ | rfl) (by first | exact Nat.le_of_ble_eq_true rfl | omega | (simp only [Array.size_map]; omega))) ?_
    -- stops: op call
    refine RL.e (Ef.call hS (rdChange _ _ _ _ l x.id x.k hx (by decide)) rfl rfl Try.call60 [1] [0, 2, 3, 4, 5] (by decide) rfl rfl) ?_
    rintro v46 w ⟨ps, ⟨rfl, rfl⟩, hS⟩
    rw [hk] at hS
    rcases hor with hp | hp
    · rw [hp]
      refine RL.q (Qt.as rfl) ?_
      refine RL.nil ?_
      refine RE.sqN ?_
      refine RC.seq ?_
      refine RC.region rfl ?_
      refine RL.q (Qt.mv rfl) ?_
      refine RL.q (Qt.eql rfl rfl) ?_
      refine RL.q (Qt.mv rfl) ?_
      refine RLG.start 49 false rfl ?_
      refine RLG.q rfl rfl rfl (fun _ => Qt.mv rfl) ?_
      refine RLG.q rfl rfl rfl (fun hg => by (try simp only [decide_eq_false_iff_not] at hg); exact Qt.eql rfl rfl) ?_
      refine RLG.or rfl rfl ?_
      refine RL.q (Qt.mv rfl) ?_
      -- stops: guard
      refine RL.q (Qt.mv rfl) ?_ (Runs.guard rfl rfl rfl (rfl))
      refine RL.q (Qt.mv rfl) ?_ (Runs.guard rfl rfl rfl (rfl))
      refine RL.q (Qt.fld rfl) ?_ (Runs.guard rfl rfl rfl (rfl))
      refine RL.q (Qt.ld rfl (by first | exact hS.at 0 rfl | exact hS.at 1 rfl | exact hS.at 2 rfl | exact hS.at 3 rfl | exact hS.at 4 rfl | exact hS.at 5 rfl) (by first  | rfl)) ?_ (Runs.guard rfl rfl rfl (rfl))
      -- stops: op call
      refine RL.e (Ef.call hS (rdSame _ r _ _ _ l x.id) rfl rfl Try.call46 [0, 2] [1, 3, 4, 5] (by decide) rfl rfl) ?_ (Runs.guard rfl rfl rfl (rfl))
      rintro v58 w ⟨ps, ⟨rfl, rfl⟩, hS⟩
      refine RL.q ((by first | exact Qt.pickT rfl (by assumption) rfl | exact Qt.pickF rfl (by assumption) rfl | exact Qt.pickT rfl rfl rfl | exact Qt.pickF rfl rfl rfl)) ?_
      refine RL.q (Qt.as rfl) ?_
      refine RL.nil ?_
      refine RE.sqN ?_
      refine RC.ret ?_
      refine RE.sqR ?_
      -- stops: end ret
      exact RE.retB rfl ⟨rfl, rfl⟩ (hS.pick [4, 5] (by decide) rfl)
    · rw [hp]
      refine RL.q (Qt.as rfl) ?_
      refine RL.nil ?_
      refine RE.sqN ?_
      refine RC.seq ?_
      refine RC.region rfl ?_
      refine RL.q (Qt.mv rfl) ?_
      refine RL.q (Qt.eql rfl rfl) ?_
      refine RL.q (Qt.mv rfl) ?_
      refine RLG.start 49 false rfl ?_
      refine RLG.q rfl rfl rfl (fun _ => Qt.mv rfl) ?_
      refine RLG.q rfl rfl rfl (fun hg => by (try simp only [decide_eq_false_iff_not] at hg); exact Qt.eql rfl rfl) ?_
      refine RLG.or rfl rfl ?_
      refine RL.q (Qt.mv rfl) ?_
      -- stops: guard
      refine RL.q (Qt.mv rfl) ?_ (Runs.guard rfl rfl rfl (rfl))
      refine RL.q (Qt.mv rfl) ?_ (Runs.guard rfl rfl rfl (rfl))
      refine RL.q (Qt.fld rfl) ?_ (Runs.guard rfl rfl rfl (rfl))
      refine RL.q (Qt.ld rfl (by first | exact hS.at 0 rfl | exact hS.at 1 rfl | exact hS.at 2 rfl | exact hS.at 3 rfl | exact hS.at 4 rfl | exact hS.at 5 rfl) (by first  | rfl)) ?_ (Runs.guard rfl rfl rfl (rfl))
      -- stops: op call
      refine RL.e (Ef.call hS (rdSame _ r _ _ _ l x.id) rfl rfl Try.call46 [0, 2] [1, 3, 4, 5] (by decide) rfl rfl) ?_ (Runs.guard rfl rfl rfl (rfl))
      rintro v58 w ⟨ps, ⟨rfl, rfl⟩, hS⟩
      refine RL.q ((by first | exact Qt.pickT rfl (by assumption) rfl | exact Qt.pickF rfl (by assumption) rfl | exact Qt.pickT rfl rfl rfl | exact Qt.pickF rfl rfl rfl)) ?_
      refine RL.q (Qt.as rfl) ?_
      refine RL.nil ?_
      refine RE.sqN ?_
      refine RC.ret ?_
      refine RE.sqR ?_
      -- stops: end ret
      exact RE.retB rfl ⟨rfl, rfl⟩ (hS.pick [4, 5] (by decide) rfl)
  · skip
    have hm : x.id ∈ kIds l := by simpa [kGetOk] using h
    obtain ⟨y, hy, hyi⟩ := List.mem_map.1 hm
    have hky : kGetK l x.id = y.k := by rw [← hyi]; exact (kGetK_some hok.nodup hy).1
    have hk0 : (kGetK l x.id).ok := by rw [hky]; exact hok.ok y hy
    have hr0 : kRight (kGetK l x.id) = true := by rw [hky]; exact hok.right y hy
    have hran : 0 ≤ x.id ∧ x.id < 10 := by rw [← hyi]; exact hok.range y hy
    have he0 : kErr l 10 x.id (kRight (kGetK l x.id)) true = 0 := kErr_ok1 (by rw [hr0]; simp; omega) hm
    have hc0 : kChg l 10 x.id (kGetK l x.id) = l := by rw [kChg, if_neg (fun e => e.2 rfl)]
    refine RC.skip ?_
    refine RE.sqN ?_
    refine RC.seq ?_
    refine RC.seq ?_
    refine RC.region rfl ?_
    refine RL.q (Qt.mv rfl) ?_
    refine RL.q (Qt.fld rfl) ?_
    refine RL.q (Qt.ld rfl (by first | exact hS.at 0 rfl | exact hS.at 1 rfl | exact hS.at 2 rfl | exact hS.at 3 rfl | exact hS.at 4 rfl | exact hS.at 5 rfl) (by first  | rfl)) ?_
    refine RL.q (Qt.ldA rfl (by first | exact hS.at 0 rfl | exact hS.at 1 rfl | exact hS.at 2 rfl | exact hS.at 3 rfl | exact hS.at 4 rfl | exact hS.at 5 rfl) (by first | exact hkx | exact hkw _ | rfl) (by first | exact Nat.le_of_ble_eq_true rfl | omega | (simp only [Array.size_map]; omega))) ?_
    -- stops: op call
    refine RL.e (Ef.call hS (rdChange _ _ _ _ l x.id (kGetK l x.id) hk0 (by decide)) rfl rfl Try.call60 [1] [0, 2, 3, 4, 5] (by decide) rfl rfl) ?_
    rintro v64 w ⟨ps, ⟨rfl, rfl⟩, hS⟩
    rw [hc0] at hS
    rw [he0]
    refine RL.q (Qt.neq rfl rfl) ?_
    refine RL.q (Qt.mv rfl) ?_
    -- stops: guard
    refine RL.q (Qt.mv rfl) ?_ (Runs.guard rfl rfl rfl (rfl))
    refine RL.q (Qt.mv rfl) ?_ (Runs.guard rfl rfl rfl (rfl))
    refine RL.q (Qt.fld rfl) ?_ (Runs.guard rfl rfl rfl (rfl))
    refine RL.q (Qt.ld rfl (by first | exact hS.at 0 rfl | exact hS.at 1 rfl | exact hS.at 2 rfl | exact hS.at 3 rfl | exact hS.at 4 rfl | exact hS.at 5 rfl) (by first  | rfl)) ?_ (Runs.guard rfl rfl rfl (rfl))
    -- stops: op call
    refine RL.e (Ef.call hS (rdSame _ r _ _ _ l x.id) rfl rfl Try.call46 [0, 2] [1, 3, 4, 5] (by decide) rfl rfl) ?_ (Runs.guard rfl rfl rfl (rfl))
    rintro v71 w ⟨ps, ⟨rfl, rfl⟩, hS⟩
    refine RL.q (Qt.not rfl) ?_ (Runs.guard rfl rfl rfl (rfl))
    refine RL.q ((by first | exact Qt.pickT rfl (by assumption) rfl | exact Qt.pickF rfl (by assumption) rfl | exact Qt.pickT rfl rfl rfl | exact Qt.pickF rfl rfl rfl)) ?_
    refine RL.nil ?_
    refine RE.sqN ?_
    -- stops: cond
    refine RC.condF rfl (rfl) ?_
    refine RC.skip ?_
    refine RE.sqN ?_
    refine RC.seq ?_
    refine RC.region rfl ?_
    refine RL.q (Qt.mv rfl) ?_
    refine RL.q (Qt.fld rfl) ?_
    refine RL.q (Qt.ld rfl (by first | exact hS.at 0 rfl | exact hS.at 1 rfl | exact hS.at 2 rfl | exact hS.at 3 rfl | exact hS.at 4 rfl | exact hS.at 5 rfl) (by first  | rfl)) ?_
    refine RL.q (Qt.fld rfl) ?_
    refine RL.q (Qt.ldA rfl (by first | exact hS.at 0 rfl | exact hS.at 1 rfl | exact hS.at 2 rfl | exact hS.at 3 rfl | exact hS.at 4 rfl | exact hS.at 5 rfl) (by first | exact hkx | exact hkw _ | rfl) (by first | exact Nat.le_of_ble_eq_true rfl | omega | (simp only [Array.size_map]; omega))) ?_
    -- stops: op call
    refine RL.e (Ef.call hS (rdChange _ _ _ _ l x.id x.k hx (by decide)) rfl rfl Try.call60 [0] [1, 2, 3, 4, 5] (by decide) rfl rfl) ?_
    rintro v79 w ⟨ps, ⟨rfl, rfl⟩, hS⟩
    by_cases hr : kRight x.k = true
    · have he : kErr l 10 x.id (kRight x.k) true = 0 := kErr_ok1 (by rw [hr]; simp; omega) hm
      rw [he]
      by_cases hkk : kGetK l x.id = x.k
      · have hc : kChg l 10 x.id x.k = l := by rw [kChg, if_neg (fun e => e.2 hkk)]
        rw [hc] at hS
        refine RL.q (Qt.as rfl) ?_
        refine RL.nil ?_
        refine RE.sqN ?_
        refine RC.seq ?_
        refine RC.seq ?_
        refine RC.region rfl ?_
        refine RL.q (Qt.mv rfl) ?_
        refine RL.q (Qt.neq rfl rfl) ?_
        refine RL.q (Qt.mv rfl) ?_
        refine RLG.start 82 false rfl ?_
        refine RLG.q rfl rfl rfl (fun hg => by (try simp only [decide_eq_false_iff_not] at hg); exact Qt.ldA rfl (by first | exact hS.at 0 rfl | exact hS.at 1 rfl | exact hS.at 2 rfl | exact hS.at 3 rfl | exact hS.at 4 rfl | exact hS.at 5 rfl) (by first | exact hkx | exact hkw _ | rfl) (by first | exact Nat.le_of_ble_eq_true rfl | omega | (simp only [Array.size_map]; omega))) ?_
        refine RLG.q rfl rfl rfl (fun _ => Qt.fld rfl) ?_
        refine RLG.q rfl rfl rfl (fun hg => by (try simp only [decide_eq_false_iff_not] at hg); exact Qt.ldA rfl (by first | exact hS.at 0 rfl | exact hS.at 1 rfl | exact hS.at 2 rfl | exact hS.at 3 rfl | exact hS.at 4 rfl | exact hS.at 5 rfl) (by first | exact hkx | exact hkw _ | rfl) (by first | exact Nat.le_of_ble_eq_true rfl | omega | (simp only [Array.size_map]; omega))) ?_
        refine RLG.q rfl rfl rfl (fun hg => by (try simp only [decide_eq_false_iff_not] at hg); exact Qt.eqlT rfl rfl (keyEq (kGetK l x.id) x.k)) ?_
        refine RLG.or rfl rfl ?_
        refine RL.nil ?_
        refine RE.sqN ?_
        -- stops: cond
        refine RC.condT rfl (by simp [hkk]) ?_
        refine RC.seq ?_
        refine RC.region rfl ?_
        refine RL.q (Qt.mv rfl) ?_
        refine RL.q (Qt.eql rfl rfl) ?_
        refine RL.q (Qt.mv rfl) ?_
        refine RLG.start 90 false rfl ?_
        refine RLG.q rfl rfl rfl (fun _ => Qt.mv rfl) ?_
        refine RLG.q rfl rfl rfl (fun hg => by (try simp only [decide_eq_false_iff_not] at hg); exact Qt.eql rfl rfl) ?_
        refine RLG.or rfl rfl ?_
        refine RL.q (Qt.mv rfl) ?_
        -- stops: guard
        refine RL.q (Qt.mv rfl) ?_ (Runs.guard rfl rfl rfl (rfl))
        refine RL.q (Qt.mv rfl) ?_ (Runs.guard rfl rfl rfl (rfl))
        refine RL.q (Qt.fld rfl) ?_ (Runs.guard rfl rfl rfl (rfl))
        refine RL.q (Qt.ld rfl (by first | exact hS.at 0 rfl | exact hS.at 1 rfl | exact hS.at 2 rfl | exact hS.at 3 rfl | exact hS.at 4 rfl | exact hS.at 5 rfl) (by first  | rfl)) ?_ (Runs.guard rfl rfl rfl (rfl))
        -- stops: op call
        refine RL.e (Ef.call hS (rdSame _ r _ _ _ l x.id) rfl rfl Try.call46 [0, 1] [2, 3, 4, 5] (by decide) rfl rfl) ?_ (Runs.guard rfl rfl rfl (rfl))
        rintro v99 w ⟨ps, ⟨rfl, rfl⟩, hS⟩
        refine RL.q ((by first | exact Qt.pickT rfl (by assumption) rfl | exact Qt.pickF rfl (by assumption) rfl | exact Qt.pickT rfl rfl rfl | exact Qt.pickF rfl rfl rfl)) ?_
        refine RL.q (Qt.as rfl) ?_
        refine RL.nil ?_
        refine RE.sqN ?_
        refine RC.ret ?_
        refine RE.sqR ?_
        -- stops: end ret
        exact RE.retB rfl ⟨rfl, rfl⟩ (hS.pick [4, 5] (by decide) rfl)
      · have hc : kChg l 10 x.id x.k = kput ⟨x.id, x.k⟩ (kout l x.id) := by rw [kChg, if_pos ⟨he, hkk⟩]
        have hx2 : x.id ∉ kIds (kout l x.id) := by rw [mem_kout_ids]; simp
        have hok1 := hok.out x.id
        have hok2 : KOk 10 (kput ⟨x.id, x.k⟩ (kout l x.id)) := hok1.put (x := ⟨x.id, x.k⟩) hran hr hx hx2
        obtain ⟨j, hj0, hj1, hj2⟩ := kput_split ⟨x.id, x.k⟩ hok1.sorted
        obtain ⟨hjl, hjx⟩ := kput_at hj0 hj1
        have hab := kput_ab hj0 hj1 hj2
        have hnd2 := hok2.nodup
        rw [hc] at hS
        refine RL.q (Qt.as rfl) ?_
        refine RL.nil ?_
        refine RE.sqN ?_
        refine RC.seq ?_
        refine RC.seq ?_
        refine RC.region rfl ?_
        refine RL.q (Qt.mv rfl) ?_
        refine RL.q (Qt.neq rfl rfl) ?_
        refine RL.q (Qt.mv rfl) ?_
        refine RLG.start 82 false rfl ?_
        refine RLG.q rfl rfl rfl (fun hg => by (try simp only [decide_eq_false_iff_not] at hg); exact Qt.ldA rfl (by first | exact hS.at 0 rfl | exact hS.at 1 rfl | exact hS.at 2 rfl | exact hS.at 3 rfl | exact hS.at 4 rfl | exact hS.at 5 rfl) (by first | exact hkx | exact hkw _ | rfl) (by first | exact Nat.le_of_ble_eq_true rfl | omega | (simp only [Array.size_map]; omega))) ?_
        refine RLG.q rfl rfl rfl (fun _ => Qt.fld rfl) ?_
        refine RLG.q rfl rfl rfl (fun hg => by (try simp only [decide_eq_false_iff_not] at hg); exact Qt.ldA rfl (by first | exact hS.at 0 rfl | exact hS.at 1 rfl | exact hS.at 2 rfl | exact hS.at 3 rfl | exact hS.at 4 rfl | exact hS.at 5 rfl) (by first | exact hkx | exact hkw _ | rfl) (by first | exact Nat.le_of_ble_eq_true rfl | omega | (simp only [Array.size_map]; omega))) ?_
        refine RLG.q rfl rfl rfl (fun hg => by (try simp only [decide_eq_false_iff_not] at hg); exact Qt.eqlT rfl rfl (keyEq (kGetK l x.id) x.k)) ?_
        refine RLG.or rfl rfl ?_
        refine RL.nil ?_
        refine RE.sqN ?_
        -- stops: cond
        refine RC.condF rfl (by simp [hkk]) ?_
        refine RC.skip ?_
        refine RE.sqN ?_
        refine RC.seq ?_
        refine RC.region rfl ?_
        refine RL.q (Qt.mv rfl) ?_
        -- stops: op call
        generalize hmm : kput ⟨x.id, x.k⟩ (kout l x.id) = m at *
        have hpl : (kIds m).length = m.length := List.length_map _
        have hml2 := hok2.lenLe
        refine RL.e (Ef.call hS (rdList _ _ _ _ m) rfl rfl Try.call47 [0] [1, 2, 3, 4, 5] (by decide) rfl rfl) ?_
        rintro v102 w ⟨ps, rfl, hS⟩
        refine RL.q (Qt.as rfl) ?_
        refine RL.nil ?_
        refine RE.sqN ?_
        refine RC.seq ?_
        refine RC.region rfl ?_
        refine RL.q (Qt.as rfl) ?_
        refine RL.nil ?_
        refine RE.sqN ?_
        refine RC.seq ?_
        refine RC.seq ?_
        refine RC.region rfl ?_
        refine RL.q (Qt.as rfl) ?_
        refine RL.nil ?_
        refine RE.sqN ?_
        refine RC.block ?_
        -- stops: loop
        obtain ⟨sp, cp, rfl⟩ := hS.ownForm 0 rfl
        have hS := hS.pick [0, 1, 4, 5, 6] (by decide) rfl
        refine RC.loop (γ := Nat) (fun i E w' => E = [(16, .int .i64 i), (15, .bool (decide (j < i))), (14, .slice sp (kIds m).length cp), (5, .pointer (some ⟨b5, 0, none⟩)), (7, .pointer (some ⟨b, 0, none⟩))] ∧ i ≤ (kIds m).length ∧ Sat oo w' [ownI (.slice sp (kIds m).length cp) (kIds m), sO (.pointer (some ⟨b, 0, none⟩)) 10 (n % 10 + 1) (80 + 1 + 1) m, pt b5 (.cells x.cells.toArray 77 (0, 0)), pin F0, R]) (fun i => (kIds m).length - i) 0 _ (by (repeat (first | exact Sub.nil | refine Sub.cons rfl ?_))) ⟨rfl, by omega, hS⟩ ?_
        clear hS
        rintro i E w ⟨rfl, hil, hS⟩
        refine RC.seq ?_
        refine RC.seq ?_
        refine RC.region rfl ?_
        refine RL.q (Qt.mv rfl) ?_
        refine RL.q (Qt.mv rfl) ?_
        refine RL.q (Qt.lenS rfl) ?_
        refine RL.q (Qt.lss rfl rfl) ?_
        refine RL.nil ?_
        refine RE.sqN ?_
        -- stops: cond
        refine RC.cond rfl (fun h4 => ?_) (fun h4 => ?_)
        · skip
          have hlt2 : i < (kIds m).length := by simpa using h4
          have hlt3 : i < m.length := by omega
          have hg : (kIds m)[i] = m[i].id := by simp [kIds]
          have hgk : kGetK m m[i].id = m[i].k := (kGetK_some hnd2 (List.getElem_mem hlt3)).1
          obtain ⟨bs, cap', c, hv, hc1, hc2, hc3, hc4, hS⟩ := hS.ownPos 0 rfl (by omega)
          cases hv
          have hck : c.toList[0 + ((i : Nat) : Int).toNat * 1]? = some (.int .i64 m[i].id) := by rw [int_cell hc4 rfl hlt2, hg]
          refine RC.skip ?_
          refine RE.sqN ?_
          refine RC.seq ?_
          refine RC.block ?_
          refine RC.seq ?_
          refine RC.region rfl ?_
          refine RL.q (Qt.mv rfl) ?_
          refine RL.q (Qt.mv rfl) ?_
          refine RL.q (Qt.mv rfl) ?_
          refine RL.q (Qt.ixS rfl rfl (by first | assumption | omega | (dsimp only; omega)) (by first | assumption | omega | (dsimp only; omega))) ?_
          refine RL.q (Qt.ld rfl (by first | exact hS.at 0 rfl | exact hS.at 1 rfl | exact hS.at 2 rfl | exact hS.at 3 rfl | exact hS.at 4 rfl) (by first | exact hck | rfl)) ?_
          -- stops: op call
          refine RL.e (Ef.call hS (rdKey _ _ _ _ m m[i].id) rfl rfl Try.call59 [1] [0, 2, 3, 4] (by decide) rfl rfl) ?_
          rintro v115 w ⟨ps, ⟨rfl, rfl⟩, hS⟩
          rw [hgk]
          refine RL.q (Qt.mv rfl) ?_
          refine RL.q (Qt.ext rfl rfl) ?_
          refine RL.q (Qt.ext rfl rfl) ?_
          refine RL.e (Ef.alloc hS) ?_
          rintro _ w ⟨b17, rfl, hS⟩
          try simp (disch := omega) only [cells_agg'] at hS
          first | refine RL.e0 (Ef.st hS 0 rfl rfl rfl (by rfl) (by rfl) (by first | exact Nat.le_of_ble_eq_true rfl | omega | (simp only [Array.size_map]; omega))) ?_ | refine RL.e0 (Ef.st hS 1 rfl rfl rfl (by rfl) (by rfl) (by first | exact Nat.le_of_ble_eq_true rfl | omega | (simp only [Array.size_map]; omega))) ?_ | refine RL.e0 (Ef.st hS 2 rfl rfl rfl (by rfl) (by rfl) (by first | exact Nat.le_of_ble_eq_true rfl | omega | (simp only [Array.size_map]; omega))) ?_ | refine RL.e0 (Ef.st hS 3 rfl rfl rfl (by rfl) (by rfl) (by first | exact Nat.le_of_ble_eq_true rfl | omega | (simp only [Array.size_map]; omega))) ?_ | refine RL.e0 (Ef.st hS 4 rfl rfl rfl (by rfl) (by rfl) (by first | exact Nat.le_of_ble_eq_true rfl | omega | (simp only [Array.size_map]; omega))) ?_ | refine RL.e0 (Ef.st hS 5 rfl rfl rfl (by rfl) (by rfl) (by first | exact Nat.le_of_ble_eq_true rfl | omega | (simp only [Array.size_map]; omega))) ?_
          intro _ w hS
          simp (disch := omega) only [List.set_cons_zero, cells_agg'] at hS
          refine RL.q (Qt.as rfl) ?_
          refine RL.nil ?_
          refine RE.sqN ?_
          refine RC.seq ?_
          refine RC.seq ?_
          refine RC.drawn 7 [0, 1, 2, 3, 4, 5, 6] (Same _) (by kernel_rfl) (by kernel_rfl) Same.drew (fun hh => ?_)
          replace hS := hS.drew
          refine RH.q hh (Calm.sq (Calm.sq (Calm.bk (Calm.sq (Calm.lp (Calm.bk (Calm.sq Calm.body))))))) rfl (by kernel_rfl) (Qt.mv rfl) ?_
          refine RH.q hh (Calm.sq (Calm.sq (Calm.bk (Calm.sq (Calm.lp (Calm.bk (Calm.sq Calm.body))))))) rfl (by kernel_rfl) (Qt.mv rfl) ?_
          refine RH.q hh (Calm.sq (Calm.sq (Calm.bk (Calm.sq (Calm.lp (Calm.bk (Calm.sq Calm.body))))))) rfl (by kernel_rfl) (Qt.ixS rfl rfl (by first | assumption | omega | (dsimp only; omega)) (by first | assumption | omega | (dsimp only; omega))) ?_
          refine RH.q hh (Calm.sq (Calm.sq (Calm.bk (Calm.sq (Calm.lp (Calm.bk (Calm.sq Calm.body))))))) rfl (by kernel_rfl) (Qt.ld rfl (by first | exact hS.at 0 rfl | exact hS.at 1 rfl | exact hS.at 2 rfl | exact hS.at 3 rfl | exact hS.at 4 rfl | exact hS.at 5 rfl) (by first | exact hck | rfl)) ?_
          refine RH.q hh (Calm.sq (Calm.sq (Calm.bk (Calm.sq (Calm.lp (Calm.bk (Calm.sq Calm.body))))))) rfl (by kernel_rfl) (Qt.fld rfl) ?_
          refine RH.q hh (Calm.sq (Calm.sq (Calm.bk (Calm.sq (Calm.lp (Calm.bk (Calm.sq Calm.body))))))) rfl (by kernel_rfl) (Qt.ld rfl (by first | exact hS.at 0 rfl | exact hS.at 1 rfl | exact hS.at 2 rfl | exact hS.at 3 rfl | exact hS.at 4 rfl | exact hS.at 5 rfl) (by first | exact hck | rfl)) ?_
          refine RH.q hh (Calm.sq (Calm.sq (Calm.bk (Calm.sq (Calm.lp (Calm.bk (Calm.sq Calm.body))))))) rfl (by kernel_rfl) (Qt.eql rfl rfl) ?_
          refine RH.done hh (by kernel_rfl) ?_
          refine RL.nil ?_
          refine RE.sqN ?_
          -- stops: cond
          refine RC.cond rfl (fun h3 => ?_) (fun h3 => ?_)
          · refine RC.seq ?_
            refine RC.region rfl ?_
            refine RL.q (Qt.as rfl) ?_
            refine RL.nil ?_
            refine RE.sqN ?_
            refine RC.exit ?_
            refine RE.sqX ?_
            refine RE.bkX ?_
            refine RE.sqN ?_
            refine RC.region rfl ?_
            refine RL.q (Qt.mv rfl) ?_
            refine RL.q ((by first | exact Qt.addI rfl rfl (by dsimp only [inK]; omega) | exact Qt.add rfl rfl)) ?_
            refine RL.q (Qt.as rfl) ?_
            refine RL.nil ?_
            -- stops: next
            have h3 : m[i].id = x.id := of_decide_eq_true h3
            have hij : i = j := nodup_inj hnd2 hlt2 hjl (by rw [hg, h3, hjx])
            have hS := (hS.pick [2, 1, 3, 4, 5] (by decide) rfl).ownMk (cap := cp) (n := (kIds m).length) (sz := 1) (cs := ints (kIds m)) 0 rfl hc1 hc2 hc3 hc4
            apply RE.lpN (i + 1)
            case hI => exact ⟨by rw [show decide (j < i + 1) = true from decide_eq_true (by omega)], hlt2, hS⟩
            case hs => (repeat (first | exact Sub.nil | refine Sub.cons rfl ?_))
            case hm =>
              show (kIds m).length - (i + 1) < (kIds m).length - i
              omega
          · skip
            have h3 : ¬ m[i].id = x.id := of_decide_eq_false h3
            have hij : i ≠ j := fun e => h3 (by subst e; rw [← hg]; exact hjx)
            have hab := hab i hlt3 hij
            rcases Nat.lt_or_gt_of_ne hij with hlt | hgt
            · have hdf : decide (j < i) = false := decide_eq_false (by omega)
              rw [hdf] at hab
              rw [hdf]
              refine RC.skip ?_
              refine RE.sqN ?_
              refine RC.seq ?_
              refine RC.region rfl ?_
              refine RL.q (Qt.mv rfl) ?_
              refine RL.q (Qt.mv rfl) ?_
              refine RL.s (Skips.guard rfl rfl rfl (rfl)) ?_
              refine RL.s (Skips.guard rfl rfl rfl (rfl)) ?_
              refine RL.s (Skips.guard rfl rfl rfl (rfl)) ?_
              refine RL.s (Skips.guard rfl rfl rfl (rfl)) ?_
              refine RL.s (Skips.guard rfl rfl rfl (rfl)) ?_
              refine RL.q ((by first | exact Qt.pickT rfl (by assumption) rfl | exact Qt.pickF rfl (by assumption) rfl | exact Qt.pickT rfl rfl rfl | exact Qt.pickF rfl rfl rfl)) ?_
              refine RL.q (Qt.mv rfl) ?_
              refine RL.q (Qt.mv rfl) ?_ (Runs.guard rfl rfl rfl (rfl))
              refine RL.q (Qt.not rfl) ?_ (Runs.guard rfl rfl rfl (rfl))
              refine RL.q (Qt.mv rfl) ?_ (Runs.guard rfl rfl rfl (rfl))
              refine RL.q (Qt.fld rfl) ?_ (Runs.guard rfl rfl rfl (rfl))
              refine RL.q (Qt.ldA rfl (by first | exact hS.at 0 rfl | exact hS.at 1 rfl | exact hS.at 2 rfl | exact hS.at 3 rfl | exact hS.at 4 rfl | exact hS.at 5 rfl) (by first | exact hkx | exact hkw _ | rfl) (by first | exact Nat.le_of_ble_eq_true rfl | omega | (simp only [Array.size_map]; omega))) ?_ (Runs.guard rfl rfl rfl (rfl))
              refine RL.q (Qt.ldA rfl (by first | exact hS.at 0 rfl | exact hS.at 1 rfl | exact hS.at 2 rfl | exact hS.at 3 rfl | exact hS.at 4 rfl | exact hS.at 5 rfl) (by first | exact hkx | exact hkw _ | rfl) (by first | exact Nat.le_of_ble_eq_true rfl | omega | (simp only [Array.size_map]; omega))) ?_ (Runs.guard rfl rfl rfl (rfl))
              -- stops: op call
              refine RL.e (Ef.call hS (rkAbove x.k m[i].k) rfl rfl Try.call49 [] [0, 1, 2, 3, 4, 5] (by decide) rfl rfl) ?_ (Runs.guard rfl rfl rfl (rfl))
              rintro v140 w ⟨ps, ⟨rfl, rfl⟩, hS⟩
              try rw [List.nil_append] at hS
              refine RL.q ((by first | exact Qt.pickT rfl (by assumption) rfl | exact Qt.pickF rfl (by assumption) rfl | exact Qt.pickT rfl rfl rfl | exact Qt.pickF rfl rfl rfl)) ?_ (Runs.guard rfl rfl rfl (rfl))
              refine RL.q ((by first | exact Qt.pickT rfl (by assumption) rfl | exact Qt.pickF rfl (by assumption) rfl | exact Qt.pickT rfl rfl rfl | exact Qt.pickF rfl rfl rfl)) ?_
              refine RL.nil ?_
              refine RE.sqN ?_
              -- stops: cond
              refine RC.condF rfl (hab) ?_
              refine RC.skip ?_
              refine RE.bkN ?_
              refine RE.sqN ?_
              refine RC.region rfl ?_
              refine RL.q (Qt.mv rfl) ?_
              refine RL.q ((by first | exact Qt.addI rfl rfl (by dsimp only [inK]; omega) | exact Qt.add rfl rfl)) ?_
              refine RL.q (Qt.as rfl) ?_
              refine RL.nil ?_
              -- stops: next
              have hS := (hS.pick [2, 1, 3, 4, 5] (by decide) rfl).ownMk (cap := cp) (n := (kIds m).length) (sz := 1) (cs := ints (kIds m)) 0 rfl hc1 hc2 hc3 hc4
              apply RE.lpN (i + 1)
              case hI => exact ⟨by rw [show decide (j < i + 1) = false from decide_eq_false (by omega)], hlt2, hS⟩
              case hs => (repeat (first | exact Sub.nil | refine Sub.cons rfl ?_))
              case hm =>
                show (kIds m).length - (i + 1) < (kIds m).length - i
                omega
            · have hdt : decide (j < i) = true := decide_eq_true hgt
              rw [hdt] at hab
              rw [hdt]
              have hab2 : (!kAbove x.k m[i].k) = false := by
                have hab : kAbove x.k m[i].k = true := hab
                rw [hab]; rfl
              refine RC.skip ?_
              refine RE.sqN ?_
              refine RC.seq ?_
              refine RC.region rfl ?_
              refine RL.q (Qt.mv rfl) ?_
              refine RL.q (Qt.mv rfl) ?_
              refine RL.q (Qt.fld rfl) ?_ (Runs.guard rfl rfl rfl (rfl))
              refine RL.q (Qt.ldA rfl (by first | exact hS.at 0 rfl | exact hS.at 1 rfl | exact hS.at 2 rfl | exact hS.at 3 rfl | exact hS.at 4 rfl | exact hS.at 5 rfl) (by first | exact hkx | exact hkw _ | rfl) (by first | exact Nat.le_of_ble_eq_true rfl | omega | (simp only [Array.size_map]; omega))) ?_ (Runs.guard rfl rfl rfl (rfl))
              refine RL.q (Qt.ldA rfl (by first | exact hS.at 0 rfl | exact hS.at 1 rfl | exact hS.at 2 rfl | exact hS.at 3 rfl | exact hS.at 4 rfl | exact hS.at 5 rfl) (by first | exact hkx | exact hkw _ | rfl) (by first | exact Nat.le_of_ble_eq_true rfl | omega | (simp only [Array.size_map]; omega))) ?_ (Runs.guard rfl rfl rfl (rfl))
              -- stops: op call
              refine RL.e (Ef.call hS (rkAbove x.k m[i].k) rfl rfl Try.call49 [] [0, 1, 2, 3, 4, 5] (by decide) rfl rfl) ?_ (Runs.guard rfl rfl rfl (rfl))
              rintro v130 w ⟨ps, ⟨rfl, rfl⟩, hS⟩
              try rw [List.nil_append] at hS
              refine RL.q (Qt.not rfl) ?_ (Runs.guard rfl rfl rfl (rfl))
              refine RL.q ((by first | exact Qt.pickT rfl (by assumption) rfl | exact Qt.pickF rfl (by assumption) rfl | exact Qt.pickT rfl rfl rfl | exact Qt.pickF rfl rfl rfl | exact Qt.pickF rfl (hab2) rfl)) ?_
              refine RL.q (Qt.mv rfl) ?_
              refine RL.q (Qt.mv rfl) ?_ (Runs.guard rfl rfl rfl (hab2))
              refine RL.q (Qt.not rfl) ?_ (Runs.guard rfl rfl rfl (hab2))
              refine RL.q (Qt.mv rfl) ?_ (Runs.guard rfl rfl rfl (hab2))
              refine RL.s (Skips.guard rfl rfl rfl (rfl)) ?_
              refine RL.s (Skips.guard rfl rfl rfl (rfl)) ?_
              refine RL.s (Skips.guard rfl rfl rfl (rfl)) ?_
              refine RL.s (Skips.guard rfl rfl rfl (rfl)) ?_
              refine RL.q ((by first | exact Qt.pickT rfl (by assumption) rfl | exact Qt.pickF rfl (by assumption) rfl | exact Qt.pickT rfl rfl rfl | exact Qt.pickF rfl rfl rfl | exact Qt.pickF rfl (hab2) rfl)) ?_ (Runs.guard rfl rfl rfl (hab2))
              refine RL.q ((by first | exact Qt.pickT rfl (by assumption) rfl | exact Qt.pickF rfl (by assumption) rfl | exact Qt.pickT rfl rfl rfl | exact Qt.pickF rfl rfl rfl | exact Qt.pickF rfl (hab2) rfl)) ?_
              refine RL.nil ?_
              refine RE.sqN ?_
              -- stops: cond
              refine RC.condF rfl (rfl) ?_
              refine RC.skip ?_
              refine RE.bkN ?_
              refine RE.sqN ?_
              refine RC.region rfl ?_
              refine RL.q (Qt.mv rfl) ?_
              refine RL.q ((by first | exact Qt.addI rfl rfl (by dsimp only [inK]; omega) | exact Qt.add rfl rfl)) ?_
              refine RL.q (Qt.as rfl) ?_
              refine RL.nil ?_
              -- stops: next
              have hS := (hS.pick [2, 1, 3, 4, 5] (by decide) rfl).ownMk (cap := cp) (n := (kIds m).length) (sz := 1) (cs := ints (kIds m)) 0 rfl hc1 hc2 hc3 hc4
              apply RE.lpN (i + 1)
              case hI => exact ⟨by rw [show decide (j < i + 1) = true from decide_eq_true (by omega)], hlt2, hS⟩
              case hs => (repeat (first | exact Sub.nil | refine Sub.cons rfl ?_))
              case hm =>
                show (kIds m).length - (i + 1) < (kIds m).length - i
                omega
        · skip
          rw [decide_eq_true (show j < i by have : ¬ i < (kIds m).length := by simpa using h4
                                            omega)]
          refine RC.exit ?_
          refine RE.sqX ?_
          refine RE.lpX ?_
          refine RE.bkX ?_
          refine RE.sqN ?_
          refine RC.seq ?_
          refine RC.region rfl ?_
          refine RL.q (Qt.mv rfl) ?_
          refine RL.q (Qt.as rfl) ?_
          refine RL.nil ?_
          refine RE.sqN ?_
          refine RC.ret ?_
          -- stops: end ret
          exact RE.retB rfl ⟨rfl, rfl⟩ (hS.pick [3, 4] (by decide) rfl)
    · have hr : kRight x.k = false := by simpa using hr
      have he : kErr l 10 x.id (kRight x.k) true = 2 := kErr_range (.inr (.inr hr))
      have hc : kChg l 10 x.id x.k = l := by rw [kChg, he, if_neg (fun e => absurd e.1 (by decide))]
      rw [hc] at hS
      rw [he]
      refine RL.q (Qt.as rfl) ?_
      refine RL.nil ?_
      refine RE.sqN ?_
      refine RC.seq ?_
      refine RC.seq ?_
      refine RC.region rfl ?_
      refine RL.q (Qt.mv rfl) ?_
      refine RL.q (Qt.neq rfl rfl) ?_
      refine RL.q (Qt.mv rfl) ?_
      refine RLG.start 82 false rfl ?_
      refine RLG.q rfl rfl rfl (fun hg => by (try simp only [decide_eq_false_iff_not] at hg); exact Qt.ldA rfl (by first | exact hS.at 0 rfl | exact hS.at 1 rfl | exact hS.at 2 rfl | exact hS.at 3 rfl | exact hS.at 4 rfl | exact hS.at 5 rfl) (by first | exact hkx | exact hkw _ | rfl) (by first | exact Nat.le_of_ble_eq_true rfl | omega | (simp only [Array.size_map]; omega))) ?_
      refine RLG.q rfl rfl rfl (fun _ => Qt.fld rfl) ?_
      refine RLG.q rfl rfl rfl (fun hg => by (try simp only [decide_eq_false_iff_not] at hg); exact Qt.ldA rfl (by first | exact hS.at 0 rfl | exact hS.at 1 rfl | exact hS.at 2 rfl | exact hS.at 3 rfl | exact hS.at 4 rfl | exact hS.at 5 rfl) (by first | exact hkx | exact hkw _ | rfl) (by first | exact Nat.le_of_ble_eq_true rfl | omega | (simp only [Array.size_map]; omega))) ?_
      refine RLG.q rfl rfl rfl (fun hg => by (try simp only [decide_eq_false_iff_not] at hg); exact Qt.eqlT rfl rfl (keyEq (kGetK l x.id) x.k)) ?_
      refine RLG.or rfl rfl ?_
      refine RL.nil ?_
      refine RE.sqN ?_
      -- stops: cond
      refine RC.condT rfl (rfl) ?_
      refine RC.seq ?_
      refine RC.region rfl ?_
      refine RL.q (Qt.mv rfl) ?_
      refine RL.q (Qt.eql rfl rfl) ?_
      refine RL.q (Qt.mv rfl) ?_
      refine RLG.start 90 false rfl ?_
      refine RLG.q rfl rfl rfl (fun _ => Qt.mv rfl) ?_
      refine RLG.q rfl rfl rfl (fun hg => by (try simp only [decide_eq_false_iff_not] at hg); exact Qt.eql rfl rfl) ?_
      refine RLG.or rfl rfl ?_
      refine RL.q (Qt.mv rfl) ?_
      -- stops: guard
      refine RL.q (Qt.mv rfl) ?_ (Runs.guard rfl rfl rfl (rfl))
      refine RL.q (Qt.mv rfl) ?_ (Runs.guard rfl rfl rfl (rfl))
      refine RL.q (Qt.fld rfl) ?_ (Runs.guard rfl rfl rfl (rfl))
      refine RL.q (Qt.ld rfl (by first | exact hS.at 0 rfl | exact hS.at 1 rfl | exact hS.at 2 rfl | exact hS.at 3 rfl | exact hS.at 4 rfl | exact hS.at 5 rfl) (by first  | rfl)) ?_ (Runs.guard rfl rfl rfl (rfl))
      -- stops: op call
      refine RL.e (Ef.call hS (rdSame _ r _ _ _ l x.id) rfl rfl Try.call46 [0, 1] [2, 3, 4, 5] (by decide) rfl rfl) ?_ (Runs.guard rfl rfl rfl (rfl))
      rintro v99 w ⟨ps, ⟨rfl, rfl⟩, hS⟩
      refine RL.q ((by first | exact Qt.pickT rfl (by assumption) rfl | exact Qt.pickF rfl (by assumption) rfl | exact Qt.pickT rfl rfl rfl | exact Qt.pickF rfl rfl rfl)) ?_
      refine RL.q (Qt.as rfl) ?_
      refine RL.nil ?_
      refine RE.sqN ?_
      refine RC.ret ?_
      refine RE.sqR ?_
      -- stops: end ret
      exact RE.retB rfl ⟨rfl, rfl⟩ (hS.pick [4, 5] (by decide) rfl)
end Go.Proofs

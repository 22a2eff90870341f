/- The reference's set of layer 10: keys, put, Put, Change, Remove, Take, Top, Key, New. -/
import Derived.Test.YtlicnplclfclcaaRs
import Derived.Test.YtlicnplclfclcaaGxN
import Derived.Test.YtlicnplclfclcaaGxT
namespace Go.Proofs
open Go Go.Gx
variable {oo : World}

theorem keyEq (k j : KKey) (w : World) : (Op.equalIn 10000 60 (.agg k.cells.toArray) (.agg j.cells.toArray)).run Try.prog w = .ok (decide (k = j)) w := by
  have h := equal_struct (P := Try.prog) (t := 60) (fs := #[⟨"Edf", 4, 0, false, "", "", 0⟩, ⟨"Deadline", 35, 1, false, "", "", 8⟩, ⟨"Level", 5, 2, false, "", "", 16⟩]) (xs := k.cells.toArray) (ys := j.cells.toArray) (by kernel_rfl) (by kernel_rfl) (FEq.bool (by decide) ⟨by kernel_rfl, by kernel_rfl⟩ rfl rfl (FEq.int (k := .u64) (by decide) ⟨by kernel_rfl, by kernel_rfl⟩ rfl rfl (FEq.int (k := .u8) (by decide) ⟨by kernel_rfl, by kernel_rfl⟩ rfl rfl FEq.nil))) w
  rw [h]
  have e : (k.edf == j.edf && (decide (k.dl = j.dl) && (decide (k.lv = j.lv) && true))) = decide (k = j) := by
    obtain ⟨e, d, v⟩ := k; obtain ⟨e', d', v'⟩ := j
    rw [Bool.eq_iff_iff]; simp
  rw [e]

set_option maxHeartbeats 1000000 in
theorem rkAbove (a b : KKey) : Ct Try.prog 49 #[.agg a.cells.toArray, .agg b.cells.toArray] [] (fun v ps => v = .bool (kAbove a b) ∧ ps = []) := by
  refine Ct.enter Try.func49 rfl (Nat.le_of_ble_eq_true rfl) ?_
  intro oo w R hS
  change RC _ _ _ _ _ _ [(0, _), (1, _)] _
  refine RC.seq ?_
  refine RC.region rfl ?_
  refine RL.e (Ef.box hS rfl) ?_
  rintro _ w ⟨b2, rfl, hS⟩
  try simp (disch := omega) only [cells_agg'] at hS
  refine RL.e (Ef.box hS rfl) ?_
  rintro _ w ⟨b3, rfl, hS⟩
  try simp (disch := omega) only [cells_agg'] at hS
  refine RL.q (Qt.as rfl) ?_
  refine RL.nil ?_
  refine RE.sqN ?_
  refine RC.seq ?_
  refine RC.seq ?_
  refine RC.region rfl ?_
  refine RL.q (Qt.fld rfl) ?_
  refine RL.q (Qt.ld rfl (by first | exact hS.at 0 rfl | exact hS.at 1 rfl | exact hS.at 2 rfl) (by first  | rfl)) ?_
  refine RL.q (Qt.mv rfl) ?_
  refine RLG.start 7 true rfl ?_
  refine RLG.q rfl rfl rfl (fun _ => Qt.fld rfl) ?_
  refine RLG.q rfl rfl rfl (fun hg => by (try simp only [decide_eq_true_eq, decide_eq_false_iff_not, Bool.or_eq_false_iff, Bool.and_eq_true, Bool.not_eq_true, Bool.not_eq_false, Option.isSome_some, Option.isNone_some] at hg); exact Qt.ld rfl (by first | exact hS.at 0 rfl | exact hS.at 1 rfl | exact hS.at 2 rfl) (by first  | rfl)) ?_
  refine RLG.and rfl rfl ?_
  refine RL.nil ?_
  refine RE.sqN ?_
  -- stops: cond
  refine RC.cond rfl (fun h => ?_) (fun h => ?_)
  · refine RC.seq ?_
    refine RC.region rfl ?_
    refine RL.q (Qt.fld rfl) ?_
    refine RL.q (Qt.ld rfl (by first | exact hS.at 0 rfl | exact hS.at 1 rfl | exact hS.at 2 rfl) (by first  | rfl)) ?_
    refine RL.q (Qt.fld rfl) ?_
    refine RL.q (Qt.ld rfl (by first | exact hS.at 0 rfl | exact hS.at 1 rfl | exact hS.at 2 rfl) (by first  | rfl)) ?_
    refine RL.q (Qt.lss rfl rfl) ?_
    refine RL.q (Qt.as rfl) ?_
    refine RL.nil ?_
    refine RE.sqN ?_
    refine RC.ret ?_
    refine RE.sqR ?_
    -- stops: end ret
    have h : (a.edf && b.edf) = true := h
    refine RE.retB rfl ⟨?_, rfl⟩ (hS.pick [2] (by decide) rfl)
    rw [kAbove, if_pos h]; rfl
  · skip
    have h : (a.edf && b.edf) = false := h
    refine RC.skip ?_
    refine RE.sqN ?_
    refine RC.seq ?_
    refine RC.seq ?_
    refine RC.region rfl ?_
    refine RL.q (Qt.fld rfl) ?_
    refine RL.q (Qt.ld rfl (by first | exact hS.at 0 rfl | exact hS.at 1 rfl | exact hS.at 2 rfl) (by first  | rfl)) ?_
    refine RL.q (Qt.mv rfl) ?_
    refine RLG.start 18 false rfl ?_
    refine RLG.q rfl rfl rfl (fun _ => Qt.fld rfl) ?_
    refine RLG.q rfl rfl rfl (fun hg => by (try simp only [decide_eq_true_eq, decide_eq_false_iff_not, Bool.or_eq_false_iff, Bool.and_eq_true, Bool.not_eq_true, Bool.not_eq_false, Option.isSome_some, Option.isNone_some] at hg); exact Qt.ld rfl (by first | exact hS.at 0 rfl | exact hS.at 1 rfl | exact hS.at 2 rfl) (by first  | rfl)) ?_
    refine RLG.or rfl rfl ?_
    refine RL.nil ?_
    refine RE.sqN ?_
    -- stops: cond
    refine RC.cond rfl (fun h2 => ?_) (fun h2 => ?_)
    · refine RC.seq ?_
      refine RC.region rfl ?_
      refine RL.q (Qt.fld rfl) ?_
      refine RL.q (Qt.ld rfl (by first | exact hS.at 0 rfl | exact hS.at 1 rfl | exact hS.at 2 rfl) (by first  | rfl)) ?_
      refine RL.q (Qt.as rfl) ?_
      refine RL.nil ?_
      refine RE.sqN ?_
      refine RC.ret ?_
      refine RE.sqR ?_
      -- stops: end ret
      have h2 : (a.edf || b.edf) = true := h2
      refine RE.retB rfl ⟨?_, rfl⟩ (hS.pick [2] (by decide) rfl)
      rw [kAbove, if_neg (by rw [h]; decide), if_pos h2]; rfl
    · refine RC.skip ?_
      refine RE.sqN ?_
      refine RC.seq ?_
      refine RC.region rfl ?_
      refine RL.q (Qt.fld rfl) ?_
      refine RL.q (Qt.ld rfl (by first | exact hS.at 0 rfl | exact hS.at 1 rfl | exact hS.at 2 rfl) (by first  | rfl)) ?_
      refine RL.q (Qt.fld rfl) ?_
      refine RL.q (Qt.ld rfl (by first | exact hS.at 0 rfl | exact hS.at 1 rfl | exact hS.at 2 rfl) (by first  | rfl)) ?_
      refine RL.q (Qt.gtr rfl rfl) ?_
      refine RL.q (Qt.as rfl) ?_
      refine RL.nil ?_
      refine RE.sqN ?_
      refine RC.ret ?_
      -- stops: end ret
      have h2 : (a.edf || b.edf) = false := h2
      refine RE.retB rfl ⟨?_, rfl⟩ (hS.pick [2] (by decide) rfl)
      rw [kAbove, if_neg (by rw [h]; decide), if_neg (by rw [h2]; decide)]; rfl

set_option maxHeartbeats 1000000 in
theorem rkRight (k : KKey) : Ct Try.prog 139 #[.agg k.cells.toArray] [] (fun v ps => v = .bool (kRight k) ∧ ps = []) := by
  refine Ct.enter Try.func139 rfl (Nat.le_of_ble_eq_true rfl) ?_
  intro oo w R hS
  change RC _ _ _ _ _ _ [(0, _)] _
  refine RC.seq ?_
  refine RC.region rfl ?_
  refine RL.e (Ef.box hS rfl) ?_
  rintro _ w ⟨b1, rfl, hS⟩
  try simp (disch := omega) only [cells_agg'] at hS
  refine RL.q (Qt.as rfl) ?_
  refine RL.nil ?_
  refine RE.sqN ?_
  refine RC.seq ?_
  refine RC.seq ?_
  refine RC.region rfl ?_
  refine RL.q (Qt.fld rfl) ?_
  refine RL.q (Qt.ld rfl (by first | exact hS.at 0 rfl | exact hS.at 1 rfl) (by first  | rfl)) ?_
  refine RL.nil ?_
  refine RE.sqN ?_
  -- stops: cond
  refine RC.cond rfl (fun h => ?_) (fun h => ?_)
  · refine RC.seq ?_
    refine RC.region rfl ?_
    refine RL.q (Qt.fld rfl) ?_
    refine RL.q (Qt.ld rfl (by first | exact hS.at 0 rfl | exact hS.at 1 rfl) (by first  | rfl)) ?_
    refine RL.q (Qt.eql rfl rfl) ?_
    refine RL.q (Qt.as rfl) ?_
    refine RL.nil ?_
    refine RE.sqN ?_
    refine RC.ret ?_
    refine RE.sqR ?_
    -- stops: end ret
    have h : k.edf = true := h
    refine RE.retB rfl ⟨?_, rfl⟩ (hS.pick [1] (by decide) rfl)
    rw [kRight, if_pos h]; rfl
  · refine RC.skip ?_
    refine RE.sqN ?_
    refine RC.seq ?_
    refine RC.region rfl ?_
    refine RL.q (Qt.fld rfl) ?_
    refine RL.q (Qt.ld rfl (by first | exact hS.at 0 rfl | exact hS.at 1 rfl) (by first  | rfl)) ?_
    refine RL.q (Qt.eql rfl rfl) ?_
    refine RL.q (Qt.as rfl) ?_
    refine RL.nil ?_
    refine RE.sqN ?_
    refine RC.ret ?_
    -- stops: end ret
    have h : k.edf = false := h
    refine RE.retB rfl ⟨?_, rfl⟩ (hS.pick [1] (by decide) rfl)
    rw [kRight, if_neg (by rw [h]; decide)]; rfl

set_option maxHeartbeats 4000000 in
theorem rsPut0 (p : Value) (n : Nat) (most : Int) (l : List KItem) (x : KItem) (hlen : l.length < 1000000) : Ct Try.prog 140 #[p, .agg x.cells.toArray] [rsO p n most l] (fun v ps => v = .tuple #[] ∧ ps = [rsO p n most (kput x l)]) := by
  refine Ct.enter Try.func140 rfl (Nat.le_of_ble_eq_true rfl) ?_
  intro oo w R hS
  change RC _ _ _ _ _ _ [(0, _), (1, _)] _
  obtain ⟨b, sp, cap, rfl, hl, hS⟩ := rsO_open hS
  have hS := (hS.nilOwn (T := 163) (sz := 4))
  refine RC.seq ?_
  refine RC.region rfl ?_
  refine RL.e (Ef.box hS rfl) ?_
  rintro _ w ⟨b3, rfl, hS⟩
  try simp (disch := omega) only [cells_agg'] at hS
  refine RL.nil ?_
  refine RE.sqN ?_
  refine RC.seq ?_
  refine RC.region rfl ?_
  refine RL.q (Qt.as rfl) ?_
  refine RL.nil ?_
  refine RE.sqN ?_
  refine RC.seq ?_
  refine RC.block ?_
  -- stops: loop
  refine RC.loop (γ := Nat) (fun k E w' => E = [(4, .int .i64 k), (3, .pointer (some ⟨b3, 0, none⟩)), (0, .pointer (some ⟨b, 0, none⟩))] ∧ k ≤ l.length ∧ kput x l = l.take k ++ kput x (l.drop k) ∧
    Sat oo w' [pt b3 (.cells x.cells.toArray 163 (0, 0)), own (.slice none 0 0) 163 4 0 [], pt b (.cells #[.int .i64 n, .int .i64 most, .slice sp l.length cap] 148 (0, 0)), own (.slice sp l.length cap) 163 4 l.length (l.flatMap KItem.cells), R]) (fun k => l.length - k) 0 _ (by (repeat (first | exact Sub.nil | refine Sub.cons rfl ?_))) ⟨rfl, by omega, by simp, hS⟩ ?_
  clear hS
  rintro k E w ⟨rfl, hk, hkp, hS⟩
  by_cases hlt : k < l.length
  · have hd : l.drop k = l[k] :: l.drop (k + 1) := List.drop_eq_getElem_cons hlt
    rw [hd] at hkp
    obtain ⟨bs, cap', c, hv, hc1, hc2, hc3, hc4, hS⟩ := hS.ownPos 3 rfl (by omega)
    cases hv
    have hrow := row_part (f := KItem.cells) (sz := 4) (vs := l[k].k.cells.toArray) (a := 1) (n := 3) (fun _ => rfl) hc4 rfl (by rw [hc1]; exact Nat.mul_le_mul_right _ hc2) hlt rfl (by decide) (k := 0 + ((k : Nat) : Int).toNat * 4 + 1) (by omega) rfl
    have hxk : x.cells.toArray.extract (0 + 1) (0 + 1 + 3) = x.k.cells.toArray := rfl
    refine RC.seq ?_
    refine RC.seq ?_
    -- stops: drawn
    refine RC.drawn 21 [0, 1, 2, 3, 4, 5, 6, 7, 8, 9, 10, 11, 12, 13, 14, 15, 16, 17, 18, 19, 20] (fun w' => w'.heap[b3]? = some (.cells x.cells.toArray 163 (0, 0)) ∧ w'.heap[b]? = some (.cells #[.int .i64 n, .int .i64 most, .slice (some ⟨bs, 0, none⟩) l.length cap] 148 (0, 0)) ∧ w'.heap[bs]? = some (.cells c 163 (0, 0))) (by kernel_rfl) (by kernel_rfl) (⟨by first | exact hS.drew.get 0 rfl | exact hS.drew.get 1 rfl | exact hS.drew.get 2 rfl | exact hS.drew.get 3 rfl | exact hS.drew.get 4 rfl | exact hS.drew.get 5 rfl | exact hS.drew.get 6 rfl, by first | exact hS.drew.get 0 rfl | exact hS.drew.get 1 rfl | exact hS.drew.get 2 rfl | exact hS.drew.get 3 rfl | exact hS.drew.get 4 rfl | exact hS.drew.get 5 rfl | exact hS.drew.get 6 rfl, by first | exact hS.drew.get 0 rfl | exact hS.drew.get 1 rfl | exact hS.drew.get 2 rfl | exact hS.drew.get 3 rfl | exact hS.drew.get 4 rfl | exact hS.drew.get 5 rfl | exact hS.drew.get 6 rfl⟩) (fun hh => ?_)
    replace hS := hS.drew
    refine RH.q hh (Calm.sq (Calm.sq (Calm.lp (Calm.bk (Calm.sq Calm.body))))) rfl (by kernel_rfl) (Qt.mv rfl) ?_
    refine RH.q hh (Calm.sq (Calm.sq (Calm.lp (Calm.bk (Calm.sq Calm.body))))) rfl (by kernel_rfl) (Qt.mv rfl) ?_
    refine RH.q hh (Calm.sq (Calm.sq (Calm.lp (Calm.bk (Calm.sq Calm.body))))) rfl (by kernel_rfl) (Qt.nil rfl) ?_
    refine RH.q hh (Calm.sq (Calm.sq (Calm.lp (Calm.bk (Calm.sq Calm.body))))) rfl (by kernel_rfl) (Qt.fld rfl) ?_
    refine RH.q hh (Calm.sq (Calm.sq (Calm.lp (Calm.bk (Calm.sq Calm.body))))) rfl (by kernel_rfl) (Qt.ld rfl (by first | exact fun _ h => h.1 | exact fun _ h => h.2.1 | exact fun _ h => h.2.2) (by first  | rfl)) ?_
    refine RH.q hh (Calm.sq (Calm.sq (Calm.lp (Calm.bk (Calm.sq Calm.body))))) rfl (by kernel_rfl) (Qt.lenS rfl) ?_
    refine RH.q hh (Calm.sq (Calm.sq (Calm.lp (Calm.bk (Calm.sq Calm.body))))) rfl (by kernel_rfl) (Qt.lss rfl rfl) ?_
    refine RH.q hh (Calm.sq (Calm.sq (Calm.lp (Calm.bk (Calm.sq Calm.body))))) rfl (by kernel_rfl) (Qt.mv rfl) ?_
    refine RH.q hh (Calm.sq (Calm.sq (Calm.lp (Calm.bk (Calm.sq Calm.body))))) rfl (by kernel_rfl) (Qt.fld rfl) ?_ (Runs.guard rfl rfl rfl (decide_eq_true (show (k : Int) < (l.length : Int) by omega)))
    refine RH.q hh (Calm.sq (Calm.sq (Calm.lp (Calm.bk (Calm.sq Calm.body))))) rfl (by kernel_rfl) (Qt.ldA rfl (by first | exact fun _ h => h.1 | exact fun _ h => h.2.1 | exact fun _ h => h.2.2) (by first | exact hrow | exact hxk | rfl) (by first | exact Nat.le_of_ble_eq_true rfl | omega | (simp only [List.size_toArray]; omega))) ?_ (Runs.guard rfl rfl rfl (decide_eq_true (show (k : Int) < (l.length : Int) by omega)))
    refine RH.q hh (Calm.sq (Calm.sq (Calm.lp (Calm.bk (Calm.sq Calm.body))))) rfl (by kernel_rfl) (Qt.mv rfl) ?_ (Runs.guard rfl rfl rfl (decide_eq_true (show (k : Int) < (l.length : Int) by omega)))
    refine RH.q hh (Calm.sq (Calm.sq (Calm.lp (Calm.bk (Calm.sq Calm.body))))) rfl (by kernel_rfl) (Qt.nil rfl) ?_ (Runs.guard rfl rfl rfl (decide_eq_true (show (k : Int) < (l.length : Int) by omega)))
    refine RH.q hh (Calm.sq (Calm.sq (Calm.lp (Calm.bk (Calm.sq Calm.body))))) rfl (by kernel_rfl) (Qt.fld rfl) ?_ (Runs.guard rfl rfl rfl (decide_eq_true (show (k : Int) < (l.length : Int) by omega)))
    refine RH.q hh (Calm.sq (Calm.sq (Calm.lp (Calm.bk (Calm.sq Calm.body))))) rfl (by kernel_rfl) (Qt.ld rfl (by first | exact fun _ h => h.1 | exact fun _ h => h.2.1 | exact fun _ h => h.2.2) (by first  | rfl)) ?_ (Runs.guard rfl rfl rfl (decide_eq_true (show (k : Int) < (l.length : Int) by omega)))
    refine RH.q hh (Calm.sq (Calm.sq (Calm.lp (Calm.bk (Calm.sq Calm.body))))) rfl (by kernel_rfl) (Qt.mv rfl) ?_ (Runs.guard rfl rfl rfl (decide_eq_true (show (k : Int) < (l.length : Int) by omega)))
    refine RH.q hh (Calm.sq (Calm.sq (Calm.lp (Calm.bk (Calm.sq Calm.body))))) rfl (by kernel_rfl) (Qt.ixS rfl rfl (by first | assumption | omega | (dsimp only; omega)) (by first | assumption | omega | (dsimp only; omega))) ?_ (Runs.guard rfl rfl rfl (decide_eq_true (show (k : Int) < (l.length : Int) by omega)))
    refine RH.q hh (Calm.sq (Calm.sq (Calm.lp (Calm.bk (Calm.sq Calm.body))))) rfl (by kernel_rfl) (Qt.fld rfl) ?_ (Runs.guard rfl rfl rfl (decide_eq_true (show (k : Int) < (l.length : Int) by omega)))
    refine RH.q hh (Calm.sq (Calm.sq (Calm.lp (Calm.bk (Calm.sq Calm.body))))) rfl (by kernel_rfl) (Qt.ldA rfl (by first | exact fun _ h => h.1 | exact fun _ h => h.2.1 | exact fun _ h => h.2.2) (by first | exact hrow | exact hxk | rfl) (by first | exact Nat.le_of_ble_eq_true rfl | omega | (simp only [List.size_toArray]; omega))) ?_ (Runs.guard rfl rfl rfl (decide_eq_true (show (k : Int) < (l.length : Int) by omega)))
    refine RH.e hh rfl (by kernel_rfl) (Ef.call hS (rkAbove x.k l[k].k) rfl rfl Try.call49 [] [0, 1, 2, 3, 4] (by decide) rfl rfl) ?_ (Runs.guard rfl rfl rfl (decide_eq_true (show (k : Int) < (l.length : Int) by omega)))
    rintro v24 w ⟨ps, ⟨rfl, rfl⟩, hS⟩
    try rw [List.nil_append] at hS
    refine ⟨⟨by first | exact hS.get 0 rfl | exact hS.get 1 rfl | exact hS.get 2 rfl | exact hS.get 3 rfl | exact hS.get 4 rfl | exact hS.get 5 rfl | exact hS.get 6 rfl, by first | exact hS.get 0 rfl | exact hS.get 1 rfl | exact hS.get 2 rfl | exact hS.get 3 rfl | exact hS.get 4 rfl | exact hS.get 5 rfl | exact hS.get 6 rfl, by first | exact hS.get 0 rfl | exact hS.get 1 rfl | exact hS.get 2 rfl | exact hS.get 3 rfl | exact hS.get 4 rfl | exact hS.get 5 rfl | exact hS.get 6 rfl⟩, ?_⟩
    refine RH.q hh (Calm.sq (Calm.sq (Calm.lp (Calm.bk (Calm.sq Calm.body))))) rfl (by kernel_rfl) (Qt.not rfl) ?_ (Runs.guard rfl rfl rfl (decide_eq_true (show (k : Int) < (l.length : Int) by omega)))
    refine RH.q hh (Calm.sq (Calm.sq (Calm.lp (Calm.bk (Calm.sq Calm.body))))) rfl (by kernel_rfl) ((by first | exact Qt.pickT rfl (by assumption) rfl | exact Qt.pickF rfl (by assumption) rfl | exact Qt.pickT rfl rfl rfl | exact Qt.pickF rfl rfl rfl | exact Qt.pickT rfl (decide_eq_true (show (k : Int) < (l.length : Int) by omega)) rfl)) ?_
    refine RH.done hh (by kernel_rfl) ?_
    refine RL.nil ?_
    refine RE.sqN ?_
    -- stops: cond
    refine RC.cond rfl (fun h2 => ?_) (fun h2 => ?_)
    · refine RC.skip ?_
      refine RE.sqN ?_
      refine RC.block ?_
      refine RC.region rfl ?_
      refine RL.q (Qt.mv rfl) ?_
      refine RL.q ((by first | exact Qt.addI rfl rfl (by dsimp only [inK]; omega) | exact Qt.add rfl rfl)) ?_
      refine RL.q (Qt.as rfl) ?_
      refine RL.nil ?_
      refine RE.bkN ?_
      -- stops: next
      have h2 : kAbove x.k l[k].k = false := by simpa using h2
      rw [show kput x (l[k] :: l.drop (k + 1)) = l[k] :: kput x (l.drop (k + 1)) by rw [kput, if_neg (by rw [h2]; decide)]] at hkp
      have htk : l.take (k + 1) = l.take k ++ [l[k]] := by rw [List.take_succ_eq_append_getElem hlt]
      have hS := (hS.pick [0, 1, 2, 3, 4] (by decide) rfl).ownMk (cap := cap) (n := l.length) (sz := 4) (cs := l.flatMap KItem.cells) 3 rfl hc1 hc2 hc3 hc4
      apply RE.lpN (k + 1)
      case hI => exact ⟨rfl, hlt, by rw [htk, hkp, List.append_assoc]; rfl, hS⟩
      case hs => (repeat (first | exact Sub.nil | refine Sub.cons rfl ?_))
      case hm =>
        show l.length - (k + 1) < l.length - k
        omega
    · skip
      have h2 : kAbove x.k l[k].k = true := by simpa using h2
      have hkq : kput x l = l.take k ++ x :: l.drop k := by rw [hkp, kput, if_pos h2, hd]
      clear hd hkp
      have hxr : x.cells.toArray.extract 0 (0 + 4) = x.cells.toArray := rfl
      have hpl : (kput x l).length = l.length + 1 := kput_len x l
      refine RC.exit ?_
      refine RE.sqX ?_
      refine RE.lpX ?_
      refine RE.bkX ?_
      refine RE.sqN ?_
      refine RC.seq ?_
      refine RC.region rfl ?_
      refine RL.q (Qt.as rfl) ?_
      refine RL.nil ?_
      refine RE.sqN ?_
      refine RC.seq ?_
      -- stops: drawn
      refine RC.drawn 12 [0, 1, 2, 3, 4, 5, 6, 8, 7, 9, 10, 11] (fun w' => w'.heap[b3]? = some (.cells x.cells.toArray 163 (0, 0)) ∧ w'.heap[b]? = some (.cells #[.int .i64 n, .int .i64 most, .slice (some ⟨bs, 0, none⟩) l.length cap] 148 (0, 0))) (by kernel_rfl) (by kernel_rfl) (⟨by first | exact hS.drew.get 0 rfl | exact hS.drew.get 1 rfl | exact hS.drew.get 2 rfl | exact hS.drew.get 3 rfl | exact hS.drew.get 4 rfl | exact hS.drew.get 5 rfl | exact hS.drew.get 6 rfl, by first | exact hS.drew.get 0 rfl | exact hS.drew.get 1 rfl | exact hS.drew.get 2 rfl | exact hS.drew.get 3 rfl | exact hS.drew.get 4 rfl | exact hS.drew.get 5 rfl | exact hS.drew.get 6 rfl⟩) (fun hh => ?_)
      replace hS := hS.drew
      refine RH.q hh (Calm.sq Calm.body) rfl (by kernel_rfl) (Qt.mv rfl) ?_
      refine RH.q hh (Calm.sq Calm.body) rfl (by kernel_rfl) (Qt.mv rfl) ?_
      refine RH.q hh (Calm.sq Calm.body) rfl (by kernel_rfl) (Qt.nil rfl) ?_
      refine RH.q hh (Calm.sq Calm.body) rfl (by kernel_rfl) (Qt.fld rfl) ?_
      refine RH.q hh (Calm.sq Calm.body) rfl (by kernel_rfl) (Qt.ld rfl (by first | exact fun _ h => h.1 | exact fun _ h => h.2) (by first  | rfl)) ?_
      refine RH.q hh (Calm.sq Calm.body) rfl (by kernel_rfl) (Qt.mv rfl) ?_
      refine RH.q hh (Calm.sq Calm.body) rfl (by kernel_rfl) (Qt.slHi rfl rfl (by first | assumption | omega | (dsimp only; omega)) (by first | assumption | omega | (dsimp only; omega))) ?_
      refine RH.q hh (Calm.sq Calm.body) rfl (by kernel_rfl) (Qt.ldA rfl (by first | exact fun _ h => h.1 | exact fun _ h => h.2) (by first | exact hxr | rfl) (by first | exact Nat.le_of_ble_eq_true rfl | omega | (simp only [List.size_toArray]; omega))) ?_
      apply RH.pair _ hh rfl rfl (by kernel_rfl) rfl
      · refine ⟨_, Ef.app (k := 1) hS rfl rfl rfl (by first | exact Src.rowsTake (fun _ => rfl) (hS.get 3 rfl) hc1 hc2 hc4 (by omega) | exact Src.rowsTake (fun _ => rfl) (hS.get 4 rfl) hc1 hc2 hc4 (by omega) | exact Src.rowsDrop (k := k) (fun _ => rfl) (hS.get 4 rfl) hc1 hc2 hc4 (by omega) rfl (by split <;> omega) | exact Src.pt (hS.get 0 rfl) (Nat.le_of_ble_eq_true rfl)) (by first | assumption | omega | (dsimp only; omega)) (by first | exact rs_plain _ | rfl), ?_⟩
        intro v w hS
        refine ⟨⟨by first | exact hS.get 0 rfl | exact hS.get 1 rfl | exact hS.get 2 rfl | exact hS.get 3 rfl | exact hS.get 4 rfl | exact hS.get 5 rfl | exact hS.get 6 rfl, by first | exact hS.get 0 rfl | exact hS.get 1 rfl | exact hS.get 2 rfl | exact hS.get 3 rfl | exact hS.get 4 rfl | exact hS.get 5 rfl | exact hS.get 6 rfl⟩, _, Ef.bsl1 hS rfl, ?_⟩
        exact fun u w h => h
      · refine ⟨_, Ef.bsl1 hS rfl, ?_⟩
        rintro u w ⟨b, rfl, hS⟩
        refine ⟨⟨by first | exact hS.get 0 rfl | exact hS.get 1 rfl | exact hS.get 2 rfl | exact hS.get 3 rfl | exact hS.get 4 rfl | exact hS.get 5 rfl | exact hS.get 6 rfl, by first | exact hS.get 0 rfl | exact hS.get 1 rfl | exact hS.get 2 rfl | exact hS.get 3 rfl | exact hS.get 4 rfl | exact hS.get 5 rfl | exact hS.get 6 rfl⟩, _, Ef.app (k := 2) hS rfl rfl rfl (by first | exact Src.rowsTake (fun _ => rfl) (hS.get 3 rfl) hc1 hc2 hc4 (by omega) | exact Src.rowsTake (fun _ => rfl) (hS.get 4 rfl) hc1 hc2 hc4 (by omega) | exact Src.rowsDrop (k := k) (fun _ => rfl) (hS.get 4 rfl) hc1 hc2 hc4 (by omega) rfl (by split <;> omega) | exact Src.pt (hS.get 0 rfl) (Nat.le_of_ble_eq_true rfl)) (by first | assumption | omega | (dsimp only; omega)) (by first | exact rs_plain _ | rfl), ?_⟩
        exact fun v w h => ⟨b, rfl, h⟩
      rintro s36 v38 w ⟨b38, rfl, hS⟩
      simp only [List.set_cons_zero, List.set_cons_succ, Nat.zero_add] at hS
      try simp (disch := omega) only [cells_agg'] at hS
      obtain ⟨sp36, cp36, rfl⟩ := hS.ownForm 2 rfl
      refine ⟨⟨by first | exact hS.get 0 rfl | exact hS.get 1 rfl | exact hS.get 2 rfl | exact hS.get 3 rfl | exact hS.get 4 rfl | exact hS.get 5 rfl | exact hS.get 6 rfl, by first | exact hS.get 0 rfl | exact hS.get 1 rfl | exact hS.get 2 rfl | exact hS.get 3 rfl | exact hS.get 4 rfl | exact hS.get 5 rfl | exact hS.get 6 rfl⟩, ?_⟩
      first | refine RH.e hh rfl (by kernel_rfl) (Ef.app (k := 2) hS rfl rfl rfl (by first | exact Src.rowsTake (fun _ => rfl) (hS.get 3 rfl) hc1 hc2 hc4 (by omega) | exact Src.rowsTake (fun _ => rfl) (hS.get 4 rfl) hc1 hc2 hc4 (by omega) | exact Src.rowsDrop (k := k) (fun _ => rfl) (hS.get 4 rfl) hc1 hc2 hc4 (by omega) rfl (by split <;> omega) | exact Src.pt (hS.get 0 rfl) (Nat.le_of_ble_eq_true rfl)) (by first | assumption | omega | (dsimp only; omega)) (by first | exact rs_plain _ | rfl)) ?_
      intro s39 w hS
      simp only [List.set_cons_zero, List.set_cons_succ, List.drop_zero] at hS
      first | (obtain ⟨sp39, cp39, rfl⟩ := hS.ownForm 2 rfl)
      refine ⟨⟨by first | exact hS.get 0 rfl | exact hS.get 1 rfl | exact hS.get 2 rfl | exact hS.get 3 rfl | exact hS.get 4 rfl | exact hS.get 5 rfl | exact hS.get 6 rfl, by first | exact hS.get 0 rfl | exact hS.get 1 rfl | exact hS.get 2 rfl | exact hS.get 3 rfl | exact hS.get 4 rfl | exact hS.get 5 rfl | exact hS.get 6 rfl⟩, ?_⟩
      refine RH.q hh (Calm.sq Calm.body) rfl (by kernel_rfl) (Qt.as rfl) ?_
      refine RH.done hh (by kernel_rfl) ?_
      refine RL.nil ?_
      refine RE.sqN ?_
      refine RC.seq ?_
      refine RC.region rfl ?_
      refine RL.q (Qt.mv rfl) ?_
      refine RL.q (Qt.mv rfl) ?_
      refine RL.q (Qt.nil rfl) ?_
      refine RL.q (Qt.fld rfl) ?_
      refine RL.q (Qt.ld rfl (by first | exact hS.at 0 rfl | exact hS.at 1 rfl | exact hS.at 2 rfl | exact hS.at 3 rfl | exact hS.at 4 rfl | exact hS.at 5 rfl) (by first  | rfl)) ?_
      refine RL.q (Qt.mv rfl) ?_
      refine RL.q ((by first | exact Qt.slLo0 rfl rfl | exact Qt.slLo rfl rfl (by first | assumption | omega | (dsimp only; omega)) (by first | assumption | omega | (dsimp only; omega)))) ?_
      first | refine RL.e (Ef.app (k := 2) hS rfl rfl rfl (by first | exact Src.rowsTake (fun _ => rfl) (hS.get 3 rfl) hc1 hc2 hc4 (by omega) | exact Src.rowsTake (fun _ => rfl) (hS.get 4 rfl) hc1 hc2 hc4 (by omega) | exact Src.rowsDrop (k := k) (fun _ => rfl) (hS.get 4 rfl) hc1 hc2 hc4 (by omega) rfl (by split <;> omega) | exact Src.pt (hS.get 0 rfl) (Nat.le_of_ble_eq_true rfl)) (by first | assumption | omega | (dsimp only; omega)) (by first | exact rs_plain _ | rfl)) ?_
      intro s47 w hS
      simp only [List.set_cons_zero, List.set_cons_succ] at hS
      first | (obtain ⟨sp47, cp47, rfl⟩ := hS.ownForm 2 rfl)
      refine RL.q (Qt.as rfl) ?_
      refine RL.nil ?_
      refine RE.sqN ?_
      refine RC.region rfl ?_
      refine RL.q (Qt.mv rfl) ?_
      refine RL.q (Qt.mv rfl) ?_
      refine RL.q (Qt.nil rfl) ?_
      refine RL.q (Qt.fld rfl) ?_
      first | refine RL.e0 (Ef.st hS 0 rfl rfl rfl (by rfl) (by rfl) (by first | exact Nat.le_of_ble_eq_true rfl | omega | (simp only [List.size_toArray]; omega))) ?_ | refine RL.e0 (Ef.st hS 1 rfl rfl rfl (by rfl) (by rfl) (by first | exact Nat.le_of_ble_eq_true rfl | omega | (simp only [List.size_toArray]; omega))) ?_ | refine RL.e0 (Ef.st hS 2 rfl rfl rfl (by rfl) (by rfl) (by first | exact Nat.le_of_ble_eq_true rfl | omega | (simp only [List.size_toArray]; omega))) ?_ | refine RL.e0 (Ef.st hS 3 rfl rfl rfl (by rfl) (by rfl) (by first | exact Nat.le_of_ble_eq_true rfl | omega | (simp only [List.size_toArray]; omega))) ?_ | refine RL.e0 (Ef.st hS 4 rfl rfl rfl (by rfl) (by rfl) (by first | exact Nat.le_of_ble_eq_true rfl | omega | (simp only [List.size_toArray]; omega))) ?_ | refine RL.e0 (Ef.st hS 5 rfl rfl rfl (by rfl) (by rfl) (by first | exact Nat.le_of_ble_eq_true rfl | omega | (simp only [List.size_toArray]; omega))) ?_
      intro _ w hS
      simp (disch := omega) only [List.set_cons_zero, List.set_cons_succ, cells_slice', Nat.zero_add, wr, List.setIfInBounds_toArray] at hS
      refine RL.nil ?_
      -- stops: end normal
      have e1 : k + 1 + (l.length - k) = (kput x l).length := by rw [hpl]; omega
      have e2 : [] ++ (l.take k).flatMap KItem.cells ++ x.cells ++ (l.drop k).flatMap KItem.cells = (kput x l).flatMap KItem.cells := by rw [hkq, List.flatMap_append, List.flatMap_cons]; simp [KItem.cells]
      refine RE.endB rfl ⟨rfl, rfl⟩ (rsO_shut (s := .slice sp47 (kput x l).length cp47) (by omega) ?_)
      rw [← e1, ← e2]
      exact hS.pick [3, 2, 5] (by decide) rfl
  · have hkl : k = l.length := by omega
    subst hkl
    have hkq : kput x l = l.take l.length ++ x :: l.drop l.length := by rw [hkp, List.drop_length]; rfl
    clear hkp hlt
    have hxr : x.cells.toArray.extract 0 (0 + 4) = x.cells.toArray := rfl
    refine RC.seq ?_
    refine RC.seq ?_
    -- stops: drawn
    refine RC.drawn 21 [0, 1, 2, 3, 4, 5, 6, 7, 8, 9, 10, 11, 12, 13, 14, 15, 16, 17, 18, 19, 20] (fun w' => w'.heap[b]? = some (.cells #[.int .i64 n, .int .i64 most, .slice sp l.length cap] 148 (0, 0))) (by kernel_rfl) (by kernel_rfl) (hS.drew.get 2 rfl) (fun hh => ?_)
    replace hS := hS.drew
    refine RH.q hh (Calm.sq (Calm.sq (Calm.lp (Calm.bk (Calm.sq Calm.body))))) rfl (by kernel_rfl) (Qt.mv rfl) ?_
    refine RH.q hh (Calm.sq (Calm.sq (Calm.lp (Calm.bk (Calm.sq Calm.body))))) rfl (by kernel_rfl) (Qt.mv rfl) ?_
    refine RH.q hh (Calm.sq (Calm.sq (Calm.lp (Calm.bk (Calm.sq Calm.body))))) rfl (by kernel_rfl) (Qt.nil rfl) ?_
    refine RH.q hh (Calm.sq (Calm.sq (Calm.lp (Calm.bk (Calm.sq Calm.body))))) rfl (by kernel_rfl) (Qt.fld rfl) ?_
    refine RH.q hh (Calm.sq (Calm.sq (Calm.lp (Calm.bk (Calm.sq Calm.body))))) rfl (by kernel_rfl) (Qt.ld rfl (fun _ h => h) (by first  | rfl)) ?_
    refine RH.q hh (Calm.sq (Calm.sq (Calm.lp (Calm.bk (Calm.sq Calm.body))))) rfl (by kernel_rfl) (Qt.lenS rfl) ?_
    refine RH.q hh (Calm.sq (Calm.sq (Calm.lp (Calm.bk (Calm.sq Calm.body))))) rfl (by kernel_rfl) (Qt.lss rfl rfl) ?_
    refine RH.q hh (Calm.sq (Calm.sq (Calm.lp (Calm.bk (Calm.sq Calm.body))))) rfl (by kernel_rfl) (Qt.mv rfl) ?_
    refine RH.s hh (Calm.sq (Calm.sq (Calm.lp (Calm.bk (Calm.sq Calm.body))))) rfl (by kernel_rfl) (Skips.guard rfl rfl rfl (decide_eq_false (show ¬ (l.length : Int) < (l.length : Int) by omega))) ?_
    refine RH.s hh (Calm.sq (Calm.sq (Calm.lp (Calm.bk (Calm.sq Calm.body))))) rfl (by kernel_rfl) (Skips.guard rfl rfl rfl (decide_eq_false (show ¬ (l.length : Int) < (l.length : Int) by omega))) ?_
    refine RH.s hh (Calm.sq (Calm.sq (Calm.lp (Calm.bk (Calm.sq Calm.body))))) rfl (by kernel_rfl) (Skips.guard rfl rfl rfl (decide_eq_false (show ¬ (l.length : Int) < (l.length : Int) by omega))) ?_
    refine RH.s hh (Calm.sq (Calm.sq (Calm.lp (Calm.bk (Calm.sq Calm.body))))) rfl (by kernel_rfl) (Skips.guard rfl rfl rfl (decide_eq_false (show ¬ (l.length : Int) < (l.length : Int) by omega))) ?_
    refine RH.s hh (Calm.sq (Calm.sq (Calm.lp (Calm.bk (Calm.sq Calm.body))))) rfl (by kernel_rfl) (Skips.guard rfl rfl rfl (decide_eq_false (show ¬ (l.length : Int) < (l.length : Int) by omega))) ?_
    refine RH.s hh (Calm.sq (Calm.sq (Calm.lp (Calm.bk (Calm.sq Calm.body))))) rfl (by kernel_rfl) (Skips.guard rfl rfl rfl (decide_eq_false (show ¬ (l.length : Int) < (l.length : Int) by omega))) ?_
    refine RH.s hh (Calm.sq (Calm.sq (Calm.lp (Calm.bk (Calm.sq Calm.body))))) rfl (by kernel_rfl) (Skips.guard rfl rfl rfl (decide_eq_false (show ¬ (l.length : Int) < (l.length : Int) by omega))) ?_
    refine RH.s hh (Calm.sq (Calm.sq (Calm.lp (Calm.bk (Calm.sq Calm.body))))) rfl (by kernel_rfl) (Skips.guard rfl rfl rfl (decide_eq_false (show ¬ (l.length : Int) < (l.length : Int) by omega))) ?_
    refine RH.s hh (Calm.sq (Calm.sq (Calm.lp (Calm.bk (Calm.sq Calm.body))))) rfl (by kernel_rfl) (Skips.guard rfl rfl rfl (decide_eq_false (show ¬ (l.length : Int) < (l.length : Int) by omega))) ?_
    refine RH.s hh (Calm.sq (Calm.sq (Calm.lp (Calm.bk (Calm.sq Calm.body))))) rfl (by kernel_rfl) (Skips.guard rfl rfl rfl (decide_eq_false (show ¬ (l.length : Int) < (l.length : Int) by omega))) ?_
    refine RH.s hh (Calm.sq (Calm.sq (Calm.lp (Calm.bk (Calm.sq Calm.body))))) rfl (by kernel_rfl) (Skips.guard rfl rfl rfl (decide_eq_false (show ¬ (l.length : Int) < (l.length : Int) by omega))) ?_
    refine RH.s hh (Calm.sq (Calm.sq (Calm.lp (Calm.bk (Calm.sq Calm.body))))) rfl (by kernel_rfl) (Skips.guard rfl rfl rfl (decide_eq_false (show ¬ (l.length : Int) < (l.length : Int) by omega))) ?_
    refine RH.q hh (Calm.sq (Calm.sq (Calm.lp (Calm.bk (Calm.sq Calm.body))))) rfl (by kernel_rfl) ((by first | exact Qt.pickT rfl (by assumption) rfl | exact Qt.pickF rfl (by assumption) rfl | exact Qt.pickT rfl rfl rfl | exact Qt.pickF rfl rfl rfl | exact Qt.pickF rfl (decide_eq_false (show ¬ (l.length : Int) < (l.length : Int) by omega)) rfl)) ?_
    refine RH.done hh (by kernel_rfl) ?_
    refine RL.nil ?_
    refine RE.sqN ?_
    -- stops: cond
    refine RC.condF rfl (rfl) ?_
    refine RC.exit ?_
    refine RE.sqX ?_
    refine RE.lpX ?_
    refine RE.bkX ?_
    refine RE.sqN ?_
    refine RC.seq ?_
    refine RC.region rfl ?_
    refine RL.q (Qt.as rfl) ?_
    refine RL.nil ?_
    refine RE.sqN ?_
    refine RC.seq ?_
    -- stops: drawn
    rcases Nat.eq_zero_or_pos l.length with hz | hz
    · obtain rfl := List.length_eq_zero_iff.1 hz
      have hpl : (kput x ([] : List KItem)).length = ([] : List KItem).length + 1 := kput_len x ([] : List KItem)
      -- stops: drawn
      refine RC.drawn 12 [0, 1, 2, 3, 4, 5, 6, 8, 7, 9, 10, 11] (fun w' => w'.heap[b3]? = some (.cells x.cells.toArray 163 (0, 0)) ∧ w'.heap[b]? = some (.cells #[.int .i64 n, .int .i64 most, .slice sp 0 cap] 148 (0, 0))) (by kernel_rfl) (by kernel_rfl) (⟨by first | exact hS.drew.get 0 rfl | exact hS.drew.get 1 rfl | exact hS.drew.get 2 rfl | exact hS.drew.get 3 rfl | exact hS.drew.get 4 rfl | exact hS.drew.get 5 rfl | exact hS.drew.get 6 rfl, by first | exact hS.drew.get 0 rfl | exact hS.drew.get 1 rfl | exact hS.drew.get 2 rfl | exact hS.drew.get 3 rfl | exact hS.drew.get 4 rfl | exact hS.drew.get 5 rfl | exact hS.drew.get 6 rfl⟩) (fun hh => ?_)
      replace hS := hS.drew
      refine RH.q hh (Calm.sq Calm.body) rfl (by kernel_rfl) (Qt.mv rfl) ?_
      refine RH.q hh (Calm.sq Calm.body) rfl (by kernel_rfl) (Qt.mv rfl) ?_
      refine RH.q hh (Calm.sq Calm.body) rfl (by kernel_rfl) (Qt.nil rfl) ?_
      refine RH.q hh (Calm.sq Calm.body) rfl (by kernel_rfl) (Qt.fld rfl) ?_
      refine RH.q hh (Calm.sq Calm.body) rfl (by kernel_rfl) (Qt.ld rfl (by first | exact fun _ h => h.1 | exact fun _ h => h.2) (by first  | rfl)) ?_
      refine RH.q hh (Calm.sq Calm.body) rfl (by kernel_rfl) (Qt.mv rfl) ?_
      refine RH.q hh (Calm.sq Calm.body) rfl (by kernel_rfl) (Qt.slHi rfl rfl (by first | assumption | omega | (dsimp only; omega)) (by first | assumption | omega | (dsimp only; omega))) ?_
      refine RH.q hh (Calm.sq Calm.body) rfl (by kernel_rfl) (Qt.ldA rfl (by first | exact fun _ h => h.1 | exact fun _ h => h.2) (by first | exact hxr | rfl) (by first | exact Nat.le_of_ble_eq_true rfl | omega | (simp only [Array.size_map]; omega))) ?_
      apply RH.pair _ hh rfl rfl (by kernel_rfl) rfl
      · refine ⟨_, Ef.app (k := 1) hS rfl rfl rfl (by first | exact Src.own hS 3 rfl | exact Src.own hS 4 rfl | exact Src.pt (hS.get 0 rfl) (Nat.le_of_ble_eq_true rfl)) (by first | assumption | omega | (dsimp only; omega)) (by first | exact rs_plain _ | rfl), ?_⟩
        intro v w hS
        refine ⟨⟨by first | exact hS.get 0 rfl | exact hS.get 1 rfl | exact hS.get 2 rfl | exact hS.get 3 rfl | exact hS.get 4 rfl | exact hS.get 5 rfl | exact hS.get 6 rfl, by first | exact hS.get 0 rfl | exact hS.get 1 rfl | exact hS.get 2 rfl | exact hS.get 3 rfl | exact hS.get 4 rfl | exact hS.get 5 rfl | exact hS.get 6 rfl⟩, _, Ef.bsl1 hS rfl, ?_⟩
        exact fun u w h => h
      · refine ⟨_, Ef.bsl1 hS rfl, ?_⟩
        rintro u w ⟨b, rfl, hS⟩
        refine ⟨⟨by first | exact hS.get 0 rfl | exact hS.get 1 rfl | exact hS.get 2 rfl | exact hS.get 3 rfl | exact hS.get 4 rfl | exact hS.get 5 rfl | exact hS.get 6 rfl, by first | exact hS.get 0 rfl | exact hS.get 1 rfl | exact hS.get 2 rfl | exact hS.get 3 rfl | exact hS.get 4 rfl | exact hS.get 5 rfl | exact hS.get 6 rfl⟩, _, Ef.app (k := 2) hS rfl rfl rfl (by first | exact Src.own hS 3 rfl | exact Src.own hS 4 rfl | exact Src.pt (hS.get 0 rfl) (Nat.le_of_ble_eq_true rfl)) (by first | assumption | omega | (dsimp only; omega)) (by first | exact rs_plain _ | rfl), ?_⟩
        exact fun v w h => ⟨b, rfl, h⟩
      rintro s36 v38 w ⟨b38, rfl, hS⟩
      simp only [List.set_cons_zero, List.set_cons_succ, Nat.zero_add] at hS
      try simp (disch := omega) only [cells_agg'] at hS
      obtain ⟨sp36, cp36, rfl⟩ := hS.ownForm 2 rfl
      refine ⟨⟨by first | exact hS.get 0 rfl | exact hS.get 1 rfl | exact hS.get 2 rfl | exact hS.get 3 rfl | exact hS.get 4 rfl | exact hS.get 5 rfl | exact hS.get 6 rfl, by first | exact hS.get 0 rfl | exact hS.get 1 rfl | exact hS.get 2 rfl | exact hS.get 3 rfl | exact hS.get 4 rfl | exact hS.get 5 rfl | exact hS.get 6 rfl⟩, ?_⟩
      first | refine RH.e hh rfl (by kernel_rfl) (Ef.app (k := 2) hS rfl rfl rfl (by first | exact Src.own hS 3 rfl | exact Src.own hS 4 rfl | exact Src.pt (hS.get 0 rfl) (Nat.le_of_ble_eq_true rfl)) (by first | assumption | omega | (dsimp only; omega)) (by first | exact rs_plain _ | rfl)) ?_
      intro s39 w hS
      simp only [List.set_cons_zero, List.set_cons_succ, List.drop_zero] at hS
      first | (obtain ⟨sp39, cp39, rfl⟩ := hS.ownForm 2 rfl)
      refine ⟨⟨by first | exact hS.get 0 rfl | exact hS.get 1 rfl | exact hS.get 2 rfl | exact hS.get 3 rfl | exact hS.get 4 rfl | exact hS.get 5 rfl | exact hS.get 6 rfl, by first | exact hS.get 0 rfl | exact hS.get 1 rfl | exact hS.get 2 rfl | exact hS.get 3 rfl | exact hS.get 4 rfl | exact hS.get 5 rfl | exact hS.get 6 rfl⟩, ?_⟩
      refine RH.q hh (Calm.sq Calm.body) rfl (by kernel_rfl) (Qt.as rfl) ?_
      refine RH.done hh (by kernel_rfl) ?_
      refine RL.nil ?_
      refine RE.sqN ?_
      refine RC.seq ?_
      refine RC.region rfl ?_
      refine RL.q (Qt.mv rfl) ?_
      refine RL.q (Qt.mv rfl) ?_
      refine RL.q (Qt.nil rfl) ?_
      refine RL.q (Qt.fld rfl) ?_
      refine RL.q (Qt.ld rfl (by first | exact hS.at 0 rfl | exact hS.at 1 rfl | exact hS.at 2 rfl | exact hS.at 3 rfl | exact hS.at 4 rfl | exact hS.at 5 rfl) (by first  | rfl)) ?_
      refine RL.q (Qt.mv rfl) ?_
      refine RL.q ((by first | exact Qt.slLo0 rfl rfl | exact Qt.slLo rfl rfl (by first | assumption | omega | (dsimp only; omega)) (by first | assumption | omega | (dsimp only; omega)))) ?_
      first | refine RL.e (Ef.app (k := 2) hS rfl rfl rfl (by first | exact Src.own hS 3 rfl | exact Src.own hS 4 rfl | exact Src.pt (hS.get 0 rfl) (Nat.le_of_ble_eq_true rfl)) (by first | assumption | omega | (dsimp only; omega)) (by first | exact rs_plain _ | rfl)) ?_
      intro s47 w hS
      simp only [List.set_cons_zero, List.set_cons_succ] at hS
      first | (obtain ⟨sp47, cp47, rfl⟩ := hS.ownForm 2 rfl)
      refine RL.q (Qt.as rfl) ?_
      refine RL.nil ?_
      refine RE.sqN ?_
      refine RC.region rfl ?_
      refine RL.q (Qt.mv rfl) ?_
      refine RL.q (Qt.mv rfl) ?_
      refine RL.q (Qt.nil rfl) ?_
      refine RL.q (Qt.fld rfl) ?_
      first | refine RL.e0 (Ef.st hS 0 rfl rfl rfl (by rfl) (by rfl) (by first | exact Nat.le_of_ble_eq_true rfl | omega | (simp only [Array.size_map]; omega))) ?_ | refine RL.e0 (Ef.st hS 1 rfl rfl rfl (by rfl) (by rfl) (by first | exact Nat.le_of_ble_eq_true rfl | omega | (simp only [Array.size_map]; omega))) ?_ | refine RL.e0 (Ef.st hS 2 rfl rfl rfl (by rfl) (by rfl) (by first | exact Nat.le_of_ble_eq_true rfl | omega | (simp only [Array.size_map]; omega))) ?_ | refine RL.e0 (Ef.st hS 3 rfl rfl rfl (by rfl) (by rfl) (by first | exact Nat.le_of_ble_eq_true rfl | omega | (simp only [Array.size_map]; omega))) ?_ | refine RL.e0 (Ef.st hS 4 rfl rfl rfl (by rfl) (by rfl) (by first | exact Nat.le_of_ble_eq_true rfl | omega | (simp only [Array.size_map]; omega))) ?_ | refine RL.e0 (Ef.st hS 5 rfl rfl rfl (by rfl) (by rfl) (by first | exact Nat.le_of_ble_eq_true rfl | omega | (simp only [Array.size_map]; omega))) ?_
      intro _ w hS
      simp (disch := omega) only [List.set_cons_zero, List.set_cons_succ, cells_slice', Nat.zero_add, wr, List.setIfInBounds_toArray] at hS
      refine RL.nil ?_
      -- stops: end normal
      have e1 : ([] : List KItem).length + 1 + ([] : List KItem).length = (kput x ([] : List KItem)).length := by rw [hpl]; omega
      have e2 : [] ++ [] ++ x.cells ++ [] = (kput x ([] : List KItem)).flatMap KItem.cells := by rw [hkq, List.flatMap_append, List.flatMap_cons]; simp [KItem.cells]
      refine RE.endB rfl ⟨rfl, rfl⟩ (rsO_shut (s := .slice sp47 (kput x ([] : List KItem)).length cp47) (by omega) ?_)
      rw [← e1, ← e2]
      exact hS.pick [3, 2, 5] (by decide) rfl
    · obtain ⟨bs, cap', c, hv, hc1, hc2, hc3, hc4, hS⟩ := hS.ownPos 3 rfl (by omega)
      cases hv
      have hpl : (kput x l).length = l.length + 1 := kput_len x l
      -- stops: drawn
      refine RC.drawn 12 [0, 1, 2, 3, 4, 5, 6, 8, 7, 9, 10, 11] (fun w' => w'.heap[b3]? = some (.cells x.cells.toArray 163 (0, 0)) ∧ w'.heap[b]? = some (.cells #[.int .i64 n, .int .i64 most, .slice (some ⟨bs, 0, none⟩) l.length cap] 148 (0, 0))) (by kernel_rfl) (by kernel_rfl) (⟨by first | exact hS.drew.get 0 rfl | exact hS.drew.get 1 rfl | exact hS.drew.get 2 rfl | exact hS.drew.get 3 rfl | exact hS.drew.get 4 rfl | exact hS.drew.get 5 rfl | exact hS.drew.get 6 rfl, by first | exact hS.drew.get 0 rfl | exact hS.drew.get 1 rfl | exact hS.drew.get 2 rfl | exact hS.drew.get 3 rfl | exact hS.drew.get 4 rfl | exact hS.drew.get 5 rfl | exact hS.drew.get 6 rfl⟩) (fun hh => ?_)
      replace hS := hS.drew
      refine RH.q hh (Calm.sq Calm.body) rfl (by kernel_rfl) (Qt.mv rfl) ?_
      refine RH.q hh (Calm.sq Calm.body) rfl (by kernel_rfl) (Qt.mv rfl) ?_
      refine RH.q hh (Calm.sq Calm.body) rfl (by kernel_rfl) (Qt.nil rfl) ?_
      refine RH.q hh (Calm.sq Calm.body) rfl (by kernel_rfl) (Qt.fld rfl) ?_
      refine RH.q hh (Calm.sq Calm.body) rfl (by kernel_rfl) (Qt.ld rfl (by first | exact fun _ h => h.1 | exact fun _ h => h.2) (by first  | rfl)) ?_
      refine RH.q hh (Calm.sq Calm.body) rfl (by kernel_rfl) (Qt.mv rfl) ?_
      refine RH.q hh (Calm.sq Calm.body) rfl (by kernel_rfl) (Qt.slHi rfl rfl (by first | assumption | omega | (dsimp only; omega)) (by first | assumption | omega | (dsimp only; omega))) ?_
      refine RH.q hh (Calm.sq Calm.body) rfl (by kernel_rfl) (Qt.ldA rfl (by first | exact fun _ h => h.1 | exact fun _ h => h.2) (by first | exact hxr | rfl) (by first | exact Nat.le_of_ble_eq_true rfl | omega | (simp only [Array.size_map]; omega))) ?_
      apply RH.pair _ hh rfl rfl (by kernel_rfl) rfl
      · refine ⟨_, Ef.app (k := 1) hS rfl rfl rfl (by first | exact Src.rowsTake (fun _ => rfl) (hS.get 3 rfl) hc1 hc2 hc4 (by omega) | exact Src.rowsTake (fun _ => rfl) (hS.get 4 rfl) hc1 hc2 hc4 (by omega) | exact Src.rowsDrop (k := l.length) (fun _ => rfl) (hS.get 4 rfl) hc1 hc2 hc4 (by omega) rfl (by split <;> omega) | exact Src.pt (hS.get 0 rfl) (Nat.le_of_ble_eq_true rfl)) (by first | assumption | omega | (dsimp only; omega)) (by first | exact rs_plain _ | rfl), ?_⟩
        intro v w hS
        refine ⟨⟨by first | exact hS.get 0 rfl | exact hS.get 1 rfl | exact hS.get 2 rfl | exact hS.get 3 rfl | exact hS.get 4 rfl | exact hS.get 5 rfl | exact hS.get 6 rfl, by first | exact hS.get 0 rfl | exact hS.get 1 rfl | exact hS.get 2 rfl | exact hS.get 3 rfl | exact hS.get 4 rfl | exact hS.get 5 rfl | exact hS.get 6 rfl⟩, _, Ef.bsl1 hS rfl, ?_⟩
        exact fun u w h => h
      · refine ⟨_, Ef.bsl1 hS rfl, ?_⟩
        rintro u w ⟨b, rfl, hS⟩
        refine ⟨⟨by first | exact hS.get 0 rfl | exact hS.get 1 rfl | exact hS.get 2 rfl | exact hS.get 3 rfl | exact hS.get 4 rfl | exact hS.get 5 rfl | exact hS.get 6 rfl, by first | exact hS.get 0 rfl | exact hS.get 1 rfl | exact hS.get 2 rfl | exact hS.get 3 rfl | exact hS.get 4 rfl | exact hS.get 5 rfl | exact hS.get 6 rfl⟩, _, Ef.app (k := 2) hS rfl rfl rfl (by first | exact Src.rowsTake (fun _ => rfl) (hS.get 3 rfl) hc1 hc2 hc4 (by omega) | exact Src.rowsTake (fun _ => rfl) (hS.get 4 rfl) hc1 hc2 hc4 (by omega) | exact Src.rowsDrop (k := l.length) (fun _ => rfl) (hS.get 4 rfl) hc1 hc2 hc4 (by omega) rfl (by split <;> omega) | exact Src.pt (hS.get 0 rfl) (Nat.le_of_ble_eq_true rfl)) (by first | assumption | omega | (dsimp only; omega)) (by first | exact rs_plain _ | rfl), ?_⟩
        exact fun v w h => ⟨b, rfl, h⟩
      rintro s36 v38 w ⟨b38, rfl, hS⟩
      simp only [List.set_cons_zero, List.set_cons_succ, Nat.zero_add] at hS
      try simp (disch := omega) only [cells_agg'] at hS
      obtain ⟨sp36, cp36, rfl⟩ := hS.ownForm 2 rfl
      refine ⟨⟨by first | exact hS.get 0 rfl | exact hS.get 1 rfl | exact hS.get 2 rfl | exact hS.get 3 rfl | exact hS.get 4 rfl | exact hS.get 5 rfl | exact hS.get 6 rfl, by first | exact hS.get 0 rfl | exact hS.get 1 rfl | exact hS.get 2 rfl | exact hS.get 3 rfl | exact hS.get 4 rfl | exact hS.get 5 rfl | exact hS.get 6 rfl⟩, ?_⟩
      first | refine RH.e hh rfl (by kernel_rfl) (Ef.app (k := 2) hS rfl rfl rfl (by first | exact Src.rowsTake (fun _ => rfl) (hS.get 3 rfl) hc1 hc2 hc4 (by omega) | exact Src.rowsTake (fun _ => rfl) (hS.get 4 rfl) hc1 hc2 hc4 (by omega) | exact Src.rowsDrop (k := l.length) (fun _ => rfl) (hS.get 4 rfl) hc1 hc2 hc4 (by omega) rfl (by split <;> omega) | exact Src.pt (hS.get 0 rfl) (Nat.le_of_ble_eq_true rfl)) (by first | assumption | omega | (dsimp only; omega)) (by first | exact rs_plain _ | rfl)) ?_
      intro s39 w hS
      simp only [List.set_cons_zero, List.set_cons_succ, List.drop_zero] at hS
      first | (obtain ⟨sp39, cp39, rfl⟩ := hS.ownForm 2 rfl)
      refine ⟨⟨by first | exact hS.get 0 rfl | exact hS.get 1 rfl | exact hS.get 2 rfl | exact hS.get 3 rfl | exact hS.get 4 rfl | exact hS.get 5 rfl | exact hS.get 6 rfl, by first | exact hS.get 0 rfl | exact hS.get 1 rfl | exact hS.get 2 rfl | exact hS.get 3 rfl | exact hS.get 4 rfl | exact hS.get 5 rfl | exact hS.get 6 rfl⟩, ?_⟩
      refine RH.q hh (Calm.sq Calm.body) rfl (by kernel_rfl) (Qt.as rfl) ?_
      refine RH.done hh (by kernel_rfl) ?_
      refine RL.nil ?_
      refine RE.sqN ?_
      refine RC.seq ?_
      refine RC.region rfl ?_
      refine RL.q (Qt.mv rfl) ?_
      refine RL.q (Qt.mv rfl) ?_
      refine RL.q (Qt.nil rfl) ?_
      refine RL.q (Qt.fld rfl) ?_
      refine RL.q (Qt.ld rfl (by first | exact hS.at 0 rfl | exact hS.at 1 rfl | exact hS.at 2 rfl | exact hS.at 3 rfl | exact hS.at 4 rfl | exact hS.at 5 rfl) (by first  | rfl)) ?_
      refine RL.q (Qt.mv rfl) ?_
      refine RL.q ((by first | exact Qt.slLo0 rfl rfl | exact Qt.slLo rfl rfl (by first | assumption | omega | (dsimp only; omega)) (by first | assumption | omega | (dsimp only; omega)))) ?_
      first | refine RL.e (Ef.app (k := 2) hS rfl rfl rfl (by first | exact Src.rowsTake (fun _ => rfl) (hS.get 3 rfl) hc1 hc2 hc4 (by omega) | exact Src.rowsTake (fun _ => rfl) (hS.get 4 rfl) hc1 hc2 hc4 (by omega) | exact Src.rowsDrop (k := l.length) (fun _ => rfl) (hS.get 4 rfl) hc1 hc2 hc4 (by omega) rfl (by split <;> omega) | exact Src.pt (hS.get 0 rfl) (Nat.le_of_ble_eq_true rfl)) (by first | assumption | omega | (dsimp only; omega)) (by first | exact rs_plain _ | rfl)) ?_
      intro s47 w hS
      simp only [List.set_cons_zero, List.set_cons_succ] at hS
      first | (obtain ⟨sp47, cp47, rfl⟩ := hS.ownForm 2 rfl)
      refine RL.q (Qt.as rfl) ?_
      refine RL.nil ?_
      refine RE.sqN ?_
      refine RC.region rfl ?_
      refine RL.q (Qt.mv rfl) ?_
      refine RL.q (Qt.mv rfl) ?_
      refine RL.q (Qt.nil rfl) ?_
      refine RL.q (Qt.fld rfl) ?_
      first | refine RL.e0 (Ef.st hS 0 rfl rfl rfl (by rfl) (by rfl) (by first | exact Nat.le_of_ble_eq_true rfl | omega | (simp only [Array.size_map]; omega))) ?_ | refine RL.e0 (Ef.st hS 1 rfl rfl rfl (by rfl) (by rfl) (by first | exact Nat.le_of_ble_eq_true rfl | omega | (simp only [Array.size_map]; omega))) ?_ | refine RL.e0 (Ef.st hS 2 rfl rfl rfl (by rfl) (by rfl) (by first | exact Nat.le_of_ble_eq_true rfl | omega | (simp only [Array.size_map]; omega))) ?_ | refine RL.e0 (Ef.st hS 3 rfl rfl rfl (by rfl) (by rfl) (by first | exact Nat.le_of_ble_eq_true rfl | omega | (simp only [Array.size_map]; omega))) ?_ | refine RL.e0 (Ef.st hS 4 rfl rfl rfl (by rfl) (by rfl) (by first | exact Nat.le_of_ble_eq_true rfl | omega | (simp only [Array.size_map]; omega))) ?_ | refine RL.e0 (Ef.st hS 5 rfl rfl rfl (by rfl) (by rfl) (by first | exact Nat.le_of_ble_eq_true rfl | omega | (simp only [Array.size_map]; omega))) ?_
      intro _ w hS
      simp (disch := omega) only [List.set_cons_zero, List.set_cons_succ, cells_slice', Nat.zero_add, wr, List.setIfInBounds_toArray] at hS
      refine RL.nil ?_
      -- stops: end normal
      have e1 : l.length + 1 + (l.length - l.length) = (kput x l).length := by rw [hpl]; omega
      have e2 : [] ++ (l.take l.length).flatMap KItem.cells ++ x.cells ++ (l.drop l.length).flatMap KItem.cells = (kput x l).flatMap KItem.cells := by rw [hkq, List.flatMap_append, List.flatMap_cons]; simp [KItem.cells]
      refine RE.endB rfl ⟨rfl, rfl⟩ (rsO_shut (s := .slice sp47 (kput x l).length cp47) (by omega) ?_)
      rw [← e1, ← e2]
      exact hS.pick [3, 2, 5] (by decide) rfl

end Go.Proofs

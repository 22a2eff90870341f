/- The law ReadyFull answers true. -/
import Derived.Test.YtlicnplclfclcaaRdW
namespace Go.Proofs
open Go Go.Gx
variable {oo : World}

theorem kPut_cases (l : List KItem) (n : Nat) (most id : Int) (k : KKey) :
    (kPutErr l n most id k = 0 ∧ kErr l n id (kRight k) false = 0 ∧ id ∉ kIds l ∧ (l.length : Int) < most ∧ kPut l n most id k = kput ⟨id, k⟩ l) ∨
    (kPutErr l n most id k = 4 ∧ id ∉ kIds l ∧ most ≤ (l.length : Int) ∧ kPut l n most id k = l) ∨
    (kPutErr l n most id k = 2 ∧ kPut l n most id k = l) ∨
    (kPutErr l n most id k = 5 ∧ id ∈ kIds l ∧ kPut l n most id k = l) := by
  by_cases h1 : id < 0 ∨ id ≥ n ∨ kRight k = false
  · have he : kErr l n id (kRight k) false = 2 := kErr_range h1
    have hp : kPutErr l n most id k = 2 := by rw [kPutErr, he, if_neg (by decide)]
    exact .inr (.inr (.inl ⟨hp, by rw [kPut, hp, if_neg (by decide)]⟩))
  · by_cases h2 : id ∈ kIds l
    · have he := kErr_known h1 h2
      have hp : kPutErr l n most id k = 5 := by rw [kPutErr, he, if_neg (by decide)]
      exact .inr (.inr (.inr ⟨hp, h2, by rw [kPut, hp, if_neg (by decide)]⟩))
    · have he := kErr_ok0 h1 h2
      by_cases h3 : (l.length : Int) ≥ most
      · have hp : kPutErr l n most id k = 4 := by rw [kPutErr, he, if_pos rfl, if_pos h3]
        exact .inr (.inl ⟨hp, h2, h3, by rw [kPut, hp, if_neg (by decide)]⟩)
      · have hp : kPutErr l n most id k = 0 := by rw [kPutErr, he, if_pos rfl, if_neg h3]
        exact .inl ⟨hp, he, h2, by omega, by rw [kPut, hp, if_pos rfl]⟩

set_option maxHeartbeats 4000000 in
theorem rdLawFull (n : Int) (hn : 0 ≤ n ∧ n ≤ 255) (v : Value) (ds : List RDeed) (x : RDeed) (F0 : Frag) (hR : RDeedsAt v ds F0) (hd : ∀ x ∈ ds, x.ok) (hx : x.ok) : Ct Try.prog 14 #[.int .u8 n, v, x.val] [pin F0] (fun v' ps => v' = .bool true ∧ ps = [pin F0]) := by
  refine Ct.enter Try.func14 rfl (Nat.le_of_ble_eq_true rfl) ?_
  intro oo w R hS
  change RC _ _ _ _ _ _ [(0, _), (1, _), (2, _)] _
  have hkx : x.cells.toArray.extract (0 + 2) (0 + 2 + 3) = x.k.cells.toArray := rfl
  refine RC.seq ?_
  refine RC.region rfl ?_
  refine RL.e (Ef.box hS rfl) ?_
  rintro _ w ⟨b5, rfl, hS⟩
  try simp (disch := omega) only [List.set_cons_zero, List.set_cons_succ, cells_int, cells_bool, cells_ptr, cells_slice, cells_func, cells_agg, cells_map, cells_int', cells_bool', cells_ptr', cells_slice', cells_agg', cells_map', cells_func', Nat.zero_add, wr, List.setIfInBounds_toArray] at hS
  refine RL.q (Qt.as rfl) ?_
  refine RL.nil ?_
  refine RE.sqN ?_
  refine RC.seq ?_
  refine RC.region rfl ?_
  refine RL.q (Qt.mv rfl) ?_
  refine RL.q (Qt.mv rfl) ?_
  -- stops: op call
  refine RL.e (Ef.call hS (rdPlay n hn v ds F0 hR hd) rfl rfl Try.call44 [1] [0, 2] (by decide) rfl rfl) ?_
  rintro v18 w ⟨ps, ⟨b, r, l, rfl, hlm, rfl⟩, hS⟩
  refine RL.q (Qt.mv rfl) ?_
  refine RL.q (Qt.ext rfl rfl) ?_
  refine RL.q (Qt.ext rfl rfl) ?_
  refine RL.q (Qt.ext rfl rfl) ?_
  refine RL.q (Qt.as rfl) ?_
  refine RL.q (Qt.as rfl) ?_
  refine RL.q (Qt.as rfl) ?_
  refine RL.nil ?_
  refine RE.sqN ?_
  refine RC.seq ?_
  refine RC.seq ?_
  refine RC.region rfl ?_
  -- stops: op call
  refine RL.e (Ef.call hS (rdLive) rfl rfl Try.call45 [] [0, 1, 2, 3, 4] (by decide) rfl rfl) ?_
  rintro v22 w ⟨ps, ⟨rfl, p', l', rfl⟩, hS⟩
  refine RL.q (Qt.not rfl) ?_
  refine RL.q (Qt.mv rfl) ?_
  refine RLG.start 24 false rfl ?_
  refine RLG.q rfl rfl rfl (fun _ => Qt.mv rfl) ?_
  refine RLG.q rfl rfl rfl (fun _ => Qt.not rfl) ?_
  refine RLG.or rfl rfl ?_
  refine RL.nil ?_
  refine RE.sqN ?_
  -- stops: cond
  refine RC.condF rfl (rfl) ?_
  refine RC.skip ?_
  refine RE.sqN ?_
  refine RC.seq ?_
  refine RC.region rfl ?_
  refine RL.q (Qt.mv rfl) ?_
  refine RL.q ((by first | exact Qt.cvtI rfl (by dsimp only [inK]; omega) | exact Qt.cvt rfl)) ?_
  refine RL.q ((by first | exact Qt.remI rfl rfl (by omega) | exact Qt.rem rfl rfl (by first | decide | omega))) ?_
  refine RL.q ((by first | exact Qt.addI rfl rfl (by dsimp only [inK]; omega) | exact Qt.add rfl rfl)) ?_
  refine RL.q (Qt.as rfl) ?_
  refine RL.nil ?_
  refine RE.sqN ?_
  refine RC.seq ?_
  refine RC.region rfl ?_
  refine RL.q (Qt.mv rfl) ?_
  -- stops: op call
  refine RL.e (Ef.call hS (rdLen _ _ _ _ l) rfl rfl Try.call50 [1] [0, 2, 3, 4, 5] (by decide) rfl rfl) ?_
  rintro v33 w ⟨ps, ⟨rfl, rfl⟩, hS⟩
  refine RL.q (Qt.as rfl) ?_
  refine RL.nil ?_
  refine RE.sqN ?_
  refine RC.seq ?_
  refine RC.region rfl ?_
  refine RL.q (Qt.mv rfl) ?_
  refine RL.q (Qt.fld rfl) ?_
  refine RL.q (Qt.ld rfl (by first | exact hS.at 0 rfl | exact hS.at 1 rfl | exact hS.at 2 rfl | exact hS.at 3 rfl | exact hS.at 4 rfl | exact hS.at 5 rfl) (by first  | rfl)) ?_
  -- stops: op call
  refine RL.e (Ef.call hS (rdKey _ _ _ _ l x.id) rfl rfl Try.call59 [0] [1, 2, 3, 4, 5] (by decide) rfl rfl) ?_
  rintro v38 w ⟨ps, ⟨rfl, rfl⟩, hS⟩
  refine RL.q (Qt.mv rfl) ?_
  refine RL.q (Qt.ext rfl rfl) ?_
  refine RL.q (Qt.ext rfl rfl) ?_
  refine RL.e (Ef.alloc hS) ?_
  rintro _ w ⟨b12, rfl, hS⟩
  try simp (disch := omega) only [cells_agg'] at hS
  first | refine RL.e0 (Ef.st hS 0 rfl rfl rfl (by rfl) (by rfl) (by first | exact Nat.le_of_ble_eq_true rfl | omega | (simp only [Array.size_map]; omega))) ?_ | refine RL.e0 (Ef.st hS 1 rfl rfl rfl (by rfl) (by rfl) (by first | exact Nat.le_of_ble_eq_true rfl | omega | (simp only [Array.size_map]; omega))) ?_ | refine RL.e0 (Ef.st hS 2 rfl rfl rfl (by rfl) (by rfl) (by first | exact Nat.le_of_ble_eq_true rfl | omega | (simp only [Array.size_map]; omega))) ?_ | refine RL.e0 (Ef.st hS 3 rfl rfl rfl (by rfl) (by rfl) (by first | exact Nat.le_of_ble_eq_true rfl | omega | (simp only [Array.size_map]; omega))) ?_ | refine RL.e0 (Ef.st hS 4 rfl rfl rfl (by rfl) (by rfl) (by first | exact Nat.le_of_ble_eq_true rfl | omega | (simp only [Array.size_map]; omega))) ?_ | refine RL.e0 (Ef.st hS 5 rfl rfl rfl (by rfl) (by rfl) (by first | exact Nat.le_of_ble_eq_true rfl | omega | (simp only [Array.size_map]; omega))) ?_ | refine RL.e0 (Ef.st hS 6 rfl rfl rfl (by rfl) (by rfl) (by first | exact Nat.le_of_ble_eq_true rfl | omega | (simp only [Array.size_map]; omega))) ?_
  intro _ w hS
  simp (disch := omega) only [List.set_cons_zero, cells_agg'] at hS
  refine RL.q (Qt.as rfl) ?_
  refine RL.nil ?_
  refine RE.sqN ?_
  refine RC.seq ?_
  refine RC.region rfl ?_
  refine RL.q (Qt.mv rfl) ?_
  refine RL.q (Qt.fld rfl) ?_
  refine RL.q (Qt.ld rfl (by first | exact hS.at 0 rfl | exact hS.at 1 rfl | exact hS.at 2 rfl | exact hS.at 3 rfl | exact hS.at 4 rfl | exact hS.at 5 rfl | exact hS.at 6 rfl) (by first  | rfl)) ?_
  refine RL.q (Qt.fld rfl) ?_
  refine RL.q (Qt.ldA rfl (by first | exact hS.at 0 rfl | exact hS.at 1 rfl | exact hS.at 2 rfl | exact hS.at 3 rfl | exact hS.at 4 rfl | exact hS.at 5 rfl | exact hS.at 6 rfl) (by first | exact hkx | rfl) (by first | exact Nat.le_of_ble_eq_true rfl | omega | (simp only [Array.size_map]; omega))) ?_
  -- stops: op call
  refine RL.e (Ef.call hS (rdPut _ _ _ _ l x.id x.k hx (by decide)) rfl rfl Try.call61 [1] [0, 2, 3, 4, 5, 6] (by decide) rfl rfl) ?_
  rintro v46 w ⟨ps, ⟨rfl, rfl⟩, hS⟩
  rcases kPut_cases l 10 (n % 10 + 1) x.id x.k with ⟨hp, _, h2, h3, hk⟩ | ⟨hp, h2, h3, hk⟩ | ⟨hp, hk⟩ | ⟨hp, h2, hk⟩
  · have ht : kGetOk l x.id = false := decide_eq_false h2
    rw [hk] at hS
    rw [hp, ht]
    refine RL.q (Qt.as rfl) ?_
    refine RL.nil ?_
    refine RE.sqN ?_
    refine RC.seq ?_
    refine RC.seq ?_
    refine RC.region rfl ?_
    refine RL.q (Qt.mv rfl) ?_
    refine RL.nil ?_
    refine RE.sqN ?_
    refine RC.block ?_
    refine RC.seq ?_
    refine RC.region rfl ?_
    refine RL.q (Qt.eql rfl rfl) ?_
    refine RL.q (Qt.as rfl) ?_
    refine RL.nil ?_
    refine RE.sqN ?_
    -- stops: cond
    refine RC.condT rfl (rfl) ?_
    refine RC.seq ?_
    refine RC.region rfl ?_
    refine RL.q (Qt.mv rfl) ?_
    refine RL.q (Qt.not rfl) ?_
    refine RL.q (Qt.mv rfl) ?_
    refine RLG.start 52 true rfl ?_
    refine RLG.q rfl rfl rfl (fun _ => Qt.mv rfl) ?_
    refine RLG.q rfl rfl rfl (fun _ => Qt.mv rfl) ?_
    refine RLG.q rfl rfl rfl (fun hg => by (try simp only [decide_eq_true_eq, decide_eq_false_iff_not, Bool.or_eq_false_iff, Bool.and_eq_true, Bool.not_eq_true, Bool.not_eq_false, Option.isSome_some, Option.isNone_some] at hg); exact Qt.lss rfl rfl) ?_
    refine RLG.and rfl rfl ?_
    refine RL.q (Qt.mv rfl) ?_
    -- stops: guard
    refine RL.q (Qt.mv rfl) ?_ (Runs.guard rfl rfl rfl (by simp; omega))
    -- stops: op call
    refine RL.e (Ef.call hS (rdLen _ _ _ _ _) rfl rfl Try.call50 [0] [1, 2, 3, 4, 5, 6] (by decide) rfl rfl) ?_ (Runs.guard rfl rfl rfl (by simp; omega))
    rintro v59 w ⟨ps, ⟨rfl, rfl⟩, hS⟩
    refine RL.q (Qt.mv rfl) ?_ (Runs.guard rfl rfl rfl (by simp; omega))
    refine RL.q ((by first | exact Qt.addI rfl rfl (by dsimp only [inK]; omega) | exact Qt.add rfl rfl)) ?_ (Runs.guard rfl rfl rfl (by simp; omega))
    refine RL.q (Qt.eql rfl rfl) ?_ (Runs.guard rfl rfl rfl (by simp; omega))
    refine RL.q ((by first | exact Qt.pickT rfl (by assumption) rfl | exact Qt.pickF rfl (by assumption) rfl | exact Qt.pickT rfl rfl rfl | exact Qt.pickF rfl rfl rfl | exact Qt.pickT rfl (by simp; omega) rfl)) ?_
    refine RL.q (Qt.as rfl) ?_
    refine RL.nil ?_
    refine RE.sqN ?_
    refine RC.ret ?_
    refine RE.bkR ?_
    refine RE.sqR ?_
    -- stops: end ret
    exact RE.retB rfl ⟨by simp [oneOf, kput_len], rfl⟩ (hS.pick [4, 6] (by decide) rfl)
  · have ht : kGetOk l x.id = false := decide_eq_false h2
    have hlen : (l.length : Int) = n % 10 + 1 := by omega
    rw [hk] at hS
    rw [hp, ht]
    refine RL.q (Qt.as rfl) ?_
    refine RL.nil ?_
    refine RE.sqN ?_
    refine RC.seq ?_
    refine RC.seq ?_
    refine RC.region rfl ?_
    refine RL.q (Qt.mv rfl) ?_
    refine RL.nil ?_
    refine RE.sqN ?_
    refine RC.block ?_
    refine RC.seq ?_
    refine RC.region rfl ?_
    refine RL.q (Qt.eql rfl rfl) ?_
    refine RL.q (Qt.as rfl) ?_
    refine RL.nil ?_
    refine RE.sqN ?_
    -- stops: cond
    refine RC.condF rfl (rfl) ?_
    refine RC.seq ?_
    refine RC.region rfl ?_
    refine RL.q (Qt.eql rfl rfl) ?_
    refine RL.q (Qt.as rfl) ?_
    refine RL.nil ?_
    refine RE.sqN ?_
    -- stops: cond
    refine RC.condT rfl (rfl) ?_
    refine RC.seq ?_
    refine RC.region rfl ?_
    refine RL.q (Qt.mv rfl) ?_
    refine RL.q (Qt.not rfl) ?_
    refine RL.q (Qt.mv rfl) ?_
    refine RLG.start 68 true rfl ?_
    refine RLG.q rfl rfl rfl (fun _ => Qt.mv rfl) ?_
    refine RLG.q rfl rfl rfl (fun _ => Qt.mv rfl) ?_
    refine RLG.q rfl rfl rfl (fun hg => by (try simp only [decide_eq_true_eq, decide_eq_false_iff_not, Bool.or_eq_false_iff, Bool.and_eq_true, Bool.not_eq_true, Bool.not_eq_false, Option.isSome_some, Option.isNone_some] at hg); exact Qt.eql rfl rfl) ?_
    refine RLG.and rfl rfl ?_
    refine RL.q (Qt.mv rfl) ?_
    -- stops: guard
    refine RL.q (Qt.mv rfl) ?_ (Runs.guard rfl rfl rfl (by simp; omega))
    refine RL.q (Qt.mv rfl) ?_ (Runs.guard rfl rfl rfl (by simp; omega))
    refine RL.q (Qt.fld rfl) ?_ (Runs.guard rfl rfl rfl (by simp; omega))
    refine RL.q (Qt.ld rfl (by first | exact hS.at 0 rfl | exact hS.at 1 rfl | exact hS.at 2 rfl | exact hS.at 3 rfl | exact hS.at 4 rfl | exact hS.at 5 rfl | exact hS.at 6 rfl) (by first  | rfl)) ?_ (Runs.guard rfl rfl rfl (by simp; omega))
    -- stops: op call
    refine RL.e (Ef.call hS (rdSame _ r _ _ _ l x.id) rfl rfl Try.call46 [0, 3] [1, 2, 4, 5, 6] (by decide) rfl rfl) ?_ (Runs.guard rfl rfl rfl (by simp; omega))
    rintro v78 w ⟨ps, ⟨rfl, rfl⟩, hS⟩
    refine RL.q ((by first | exact Qt.pickT rfl (by assumption) rfl | exact Qt.pickF rfl (by assumption) rfl | exact Qt.pickT rfl rfl rfl | exact Qt.pickF rfl rfl rfl | exact Qt.pickT rfl (by simp; omega) rfl)) ?_
    refine RL.q (Qt.as rfl) ?_
    refine RL.nil ?_
    refine RE.sqN ?_
    refine RC.ret ?_
    refine RE.bkR ?_
    refine RE.sqR ?_
    -- stops: end ret
    exact RE.retB rfl ⟨rfl, rfl⟩ (hS.pick [4, 6] (by decide) rfl)
  · rw [hk] at hS
    rw [hp]
    refine RL.q (Qt.as rfl) ?_
    refine RL.nil ?_
    refine RE.sqN ?_
    refine RC.seq ?_
    refine RC.seq ?_
    refine RC.region rfl ?_
    refine RL.q (Qt.mv rfl) ?_
    refine RL.nil ?_
    refine RE.sqN ?_
    refine RC.block ?_
    refine RC.seq ?_
    refine RC.region rfl ?_
    refine RL.q (Qt.eql rfl rfl) ?_
    refine RL.q (Qt.as rfl) ?_
    refine RL.nil ?_
    refine RE.sqN ?_
    -- stops: cond
    refine RC.condF rfl (rfl) ?_
    refine RC.seq ?_
    refine RC.region rfl ?_
    refine RL.q (Qt.eql rfl rfl) ?_
    refine RL.q (Qt.as rfl) ?_
    refine RL.nil ?_
    refine RE.sqN ?_
    -- stops: cond
    refine RC.condF rfl (rfl) ?_
    refine RC.skip ?_
    refine RE.bkN ?_
    refine RE.sqN ?_
    refine RC.seq ?_
    refine RC.region rfl ?_
    refine RL.q (Qt.mv rfl) ?_
    refine RL.q (Qt.mv rfl) ?_
    refine RL.q (Qt.fld rfl) ?_
    refine RL.q (Qt.ld rfl (by first | exact hS.at 0 rfl | exact hS.at 1 rfl | exact hS.at 2 rfl | exact hS.at 3 rfl | exact hS.at 4 rfl | exact hS.at 5 rfl | exact hS.at 6 rfl) (by first  | rfl)) ?_
    -- stops: op call
    refine RL.e (Ef.call hS (rdSame _ r _ _ _ l x.id) rfl rfl Try.call46 [0, 3] [1, 2, 4, 5, 6] (by decide) rfl rfl) ?_
    rintro v84 w ⟨ps, ⟨rfl, rfl⟩, hS⟩
    refine RL.q (Qt.mv rfl) ?_
    refine RL.q (Qt.mv rfl) ?_ (Runs.guard rfl rfl rfl (rfl))
    refine RL.q (Qt.eql rfl rfl) ?_ (Runs.guard rfl rfl rfl (rfl))
    refine RL.q (Qt.mv rfl) ?_ (Runs.guard rfl rfl rfl (rfl))
    refine RL.s (Skips.guard rfl rfl rfl (rfl)) ?_
    refine RL.s (Skips.guard rfl rfl rfl (rfl)) ?_
    refine RL.s (Skips.guard rfl rfl rfl (rfl)) ?_
    refine RL.s (Skips.undef rfl rfl rfl) ?_
    refine RL.s (Skips.guard rfl rfl rfl (rfl)) ?_
    refine RL.q ((by first | exact Qt.pickT rfl (by assumption) rfl | exact Qt.pickF rfl (by assumption) rfl | exact Qt.pickT rfl rfl rfl | exact Qt.pickF rfl rfl rfl)) ?_ (Runs.guard rfl rfl rfl (rfl))
    refine RL.q ((by first | exact Qt.pickT rfl (by assumption) rfl | exact Qt.pickF rfl (by assumption) rfl | exact Qt.pickT rfl rfl rfl | exact Qt.pickF rfl rfl rfl)) ?_
    refine RL.q (Qt.mv rfl) ?_
    refine RL.q (Qt.mv rfl) ?_ (Runs.guard rfl rfl rfl (rfl))
    refine RL.q (Qt.mv rfl) ?_ (Runs.guard rfl rfl rfl (rfl))
    refine RL.q (Qt.leq rfl rfl) ?_ (Runs.guard rfl rfl rfl (rfl))
    refine RL.q ((by first | exact Qt.pickT rfl (by assumption) rfl | exact Qt.pickF rfl (by assumption) rfl | exact Qt.pickT rfl rfl rfl | exact Qt.pickF rfl rfl rfl)) ?_
    refine RL.q (Qt.as rfl) ?_
    refine RL.nil ?_
    refine RE.sqN ?_
    refine RC.ret ?_
    -- stops: end ret
    exact RE.retB rfl ⟨by simp [oneOf]; omega, rfl⟩ (hS.pick [4, 6] (by decide) rfl)
  · have ht : kGetOk l x.id = true := decide_eq_true h2
    rw [hk] at hS
    rw [hp, ht]
    refine RL.q (Qt.as rfl) ?_
    refine RL.nil ?_
    refine RE.sqN ?_
    refine RC.seq ?_
    refine RC.seq ?_
    refine RC.region rfl ?_
    refine RL.q (Qt.mv rfl) ?_
    refine RL.nil ?_
    refine RE.sqN ?_
    refine RC.block ?_
    refine RC.seq ?_
    refine RC.region rfl ?_
    refine RL.q (Qt.eql rfl rfl) ?_
    refine RL.q (Qt.as rfl) ?_
    refine RL.nil ?_
    refine RE.sqN ?_
    -- stops: cond
    refine RC.condF rfl (rfl) ?_
    refine RC.seq ?_
    refine RC.region rfl ?_
    refine RL.q (Qt.eql rfl rfl) ?_
    refine RL.q (Qt.as rfl) ?_
    refine RL.nil ?_
    refine RE.sqN ?_
    -- stops: cond
    refine RC.condF rfl (rfl) ?_
    refine RC.skip ?_
    refine RE.bkN ?_
    refine RE.sqN ?_
    refine RC.seq ?_
    refine RC.region rfl ?_
    refine RL.q (Qt.mv rfl) ?_
    refine RL.q (Qt.mv rfl) ?_
    refine RL.q (Qt.fld rfl) ?_
    refine RL.q (Qt.ld rfl (by first | exact hS.at 0 rfl | exact hS.at 1 rfl | exact hS.at 2 rfl | exact hS.at 3 rfl | exact hS.at 4 rfl | exact hS.at 5 rfl | exact hS.at 6 rfl) (by first  | rfl)) ?_
    -- stops: op call
    refine RL.e (Ef.call hS (rdSame _ r _ _ _ l x.id) rfl rfl Try.call46 [0, 3] [1, 2, 4, 5, 6] (by decide) rfl rfl) ?_
    rintro v84 w ⟨ps, ⟨rfl, rfl⟩, hS⟩
    refine RL.q (Qt.mv rfl) ?_
    refine RL.q (Qt.mv rfl) ?_ (Runs.guard rfl rfl rfl (rfl))
    refine RL.q (Qt.eql rfl rfl) ?_ (Runs.guard rfl rfl rfl (rfl))
    refine RL.q (Qt.mv rfl) ?_ (Runs.guard rfl rfl rfl (rfl))
    refine RL.q (Qt.mv rfl) ?_ (Runs.guard rfl rfl rfl (rfl))
    refine RL.q (Qt.eql rfl rfl) ?_ (Runs.guard rfl rfl rfl (rfl))
    refine RL.q (Qt.mv rfl) ?_ (Runs.guard rfl rfl rfl (rfl))
    refine RL.q (Qt.mv rfl) ?_ (Runs.guard rfl rfl rfl (rfl))
    refine RL.q ((by first | exact Qt.pickT rfl (by assumption) rfl | exact Qt.pickF rfl (by assumption) rfl | exact Qt.pickT rfl rfl rfl | exact Qt.pickF rfl rfl rfl)) ?_ (Runs.guard rfl rfl rfl (rfl))
    refine RL.q ((by first | exact Qt.pickT rfl (by assumption) rfl | exact Qt.pickF rfl (by assumption) rfl | exact Qt.pickT rfl rfl rfl | exact Qt.pickF rfl rfl rfl)) ?_ (Runs.guard rfl rfl rfl (rfl))
    refine RL.q ((by first | exact Qt.pickT rfl (by assumption) rfl | exact Qt.pickF rfl (by assumption) rfl | exact Qt.pickT rfl rfl rfl | exact Qt.pickF rfl rfl rfl)) ?_
    refine RL.q (Qt.mv rfl) ?_
    refine RL.q (Qt.mv rfl) ?_ (Runs.guard rfl rfl rfl (rfl))
    refine RL.q (Qt.mv rfl) ?_ (Runs.guard rfl rfl rfl (rfl))
    refine RL.q (Qt.leq rfl rfl) ?_ (Runs.guard rfl rfl rfl (rfl))
    refine RL.q ((by first | exact Qt.pickT rfl (by assumption) rfl | exact Qt.pickF rfl (by assumption) rfl | exact Qt.pickT rfl rfl rfl | exact Qt.pickF rfl rfl rfl)) ?_
    refine RL.q (Qt.as rfl) ?_
    refine RL.nil ?_
    refine RE.sqN ?_
    refine RC.ret ?_
    -- stops: end ret
    exact RE.retB rfl ⟨by simp [oneOf]; omega, rfl⟩ (hS.pick [4, 6] (by decide) rfl)
end Go.Proofs

/- The set of layer 10 itself: Fork, New. -/
import Derived.Test.YtlicnplclfclcaaRd3
namespace Go.Proofs
open Go Go.Gx
variable {oo : World}

theorem bqForkR (p : Value) (n : Nat) (l : List RItem) : Ct Try.prog 109 #[p] [qO p n l] (fun v ps => (∃ b, v = .pointer (some ⟨b, 0, none⟩)) ∧ ps = [qO v n l, qO p n l]) := fun oo w R hS =>
  (bqFork p n l oo w R hS).mono fun e w' ⟨v, ps, he, hp, hS'⟩ => by
    subst hp
    exact ⟨v, _, he, ⟨(hS'.fact 0 rfl (fun F hF => qO_fact hF)).1, rfl⟩, hS'⟩
theorem bqNewR (n : Int) (h0 : 1 ≤ n) (h1 : n ≤ 1024) : Ct Try.prog 115 #[.int .i64 n] [] (fun v ps => (∃ b, v = .pointer (some ⟨b, 0, none⟩)) ∧ ps = [qO v n.toNat []]) := fun oo w R hS =>
  (bqNew n h0 h1 oo w R hS).mono fun e w' ⟨v, ps, he, hp, hS'⟩ => by
    subst hp
    exact ⟨v, _, he, ⟨(hS'.fact 0 rfl (fun F hF => qO_fact hF)).1, rfl⟩, hS'⟩

set_option maxHeartbeats 2000000 in
theorem rdFork (p : Value) (n : Nat) (most B : Int) (l : List KItem) : Ct Try.prog 63 #[p] [sO p n most B l] (fun v ps => (∃ b, v = .pointer (some ⟨b, 0, none⟩)) ∧ ps = [sO v n most B l, sO p n most B l]) := by
  refine Ct.enter Try.func63 rfl (Nat.le_of_ble_eq_true rfl) ?_
  intro oo w R hS
  change RC _ _ _ _ _ _ [(0, _)] _
  obtain ⟨lq, lh, seq, b, bq, bh, rfl, hI, hs0, hs1, hqn, hhn, hn, hS⟩ := sO_open hS
  refine RC.seq ?_
  refine RC.region rfl ?_
  refine RL.q (Qt.as rfl) ?_
  refine RL.nil ?_
  refine RE.sqN ?_
  refine RC.seq ?_
  refine RC.seq ?_
  refine RC.region rfl ?_
  refine RL.q (Qt.mv rfl) ?_
  refine RL.q (Qt.eqlN rfl rfl) ?_
  refine RL.nil ?_
  refine RE.sqN ?_
  -- stops: cond
  refine RC.condF rfl (rfl) ?_
  refine RC.skip ?_
  refine RE.sqN ?_
  refine RC.seq ?_
  refine RC.region rfl ?_
  refine RL.q (Qt.mv rfl) ?_
  refine RL.q (Qt.nil rfl) ?_
  refine RL.q (Qt.ldA rfl (by first | exact hS.at 0 rfl | exact hS.at 1 rfl | exact hS.at 2 rfl | exact hS.at 3 rfl) (by first  | rfl) (by first | exact Nat.le_of_ble_eq_true rfl | omega | (simp only [Array.size_map]; omega))) ?_
  refine RL.e (Ef.alloc hS) ?_
  rintro _ w ⟨b3, rfl, hS⟩
  try simp (disch := omega) only [cells_agg'] at hS
  first | refine RL.e0 (Ef.st hS 0 rfl rfl rfl (by rfl) (by rfl) (by first | exact Nat.le_of_ble_eq_true rfl | omega | (simp only [Array.size_map]; omega))) ?_ | refine RL.e0 (Ef.st hS 1 rfl rfl rfl (by rfl) (by rfl) (by first | exact Nat.le_of_ble_eq_true rfl | omega | (simp only [Array.size_map]; omega))) ?_ | refine RL.e0 (Ef.st hS 2 rfl rfl rfl (by rfl) (by rfl) (by first | exact Nat.le_of_ble_eq_true rfl | omega | (simp only [Array.size_map]; omega))) ?_ | refine RL.e0 (Ef.st hS 3 rfl rfl rfl (by rfl) (by rfl) (by first | exact Nat.le_of_ble_eq_true rfl | omega | (simp only [Array.size_map]; omega))) ?_ | refine RL.e0 (Ef.st hS 4 rfl rfl rfl (by rfl) (by rfl) (by first | exact Nat.le_of_ble_eq_true rfl | omega | (simp only [Array.size_map]; omega))) ?_
  intro _ w hS
  simp (disch := omega) only [List.set_cons_zero, cells_agg', Nat.zero_add] at hS
  refine RL.nil ?_
  refine RE.sqN ?_
  refine RC.seq ?_
  -- stops: drawn
  refine RC.drawn 15 [0, 1, 2, 3, 4, 6, 7, 8, 9, 10, 5, 11, 12, 13, 14] (fun w' => w'.heap[b]? = some (.cells #[.pointer (some ⟨bq, 0, none⟩), .pointer (some ⟨bh, 0, none⟩), .int .i64 n, .int .i64 most, .int .u64 seq] 130 (0, 0))) (by kernel_rfl) (by kernel_rfl) ((by first | exact hS.drew.get 0 rfl | exact hS.drew.get 1 rfl | exact hS.drew.get 2 rfl | exact hS.drew.get 3 rfl | exact hS.drew.get 4 rfl | exact hS.drew.get 5 rfl | exact hS.drew.get 6 rfl)) (fun hh => ?_)
  replace hS := hS.drew
  refine RH.q hh (Calm.sq Calm.body) rfl (by kernel_rfl) (Qt.mv rfl) ?_
  refine RH.q hh (Calm.sq Calm.body) rfl (by kernel_rfl) (Qt.nil rfl) ?_
  refine RH.q hh (Calm.sq Calm.body) rfl (by kernel_rfl) (Qt.fld rfl) ?_
  refine RH.q hh (Calm.sq Calm.body) rfl (by kernel_rfl) (Qt.fld rfl) ?_
  refine RH.q hh (Calm.sq Calm.body) rfl (by kernel_rfl) (Qt.ld rfl (fun _ h => h) (by first  | rfl)) ?_
  refine RH.q hh (Calm.sq Calm.body) rfl (by kernel_rfl) (Qt.mv rfl) ?_
  refine RH.q hh (Calm.sq Calm.body) rfl (by kernel_rfl) (Qt.nil rfl) ?_
  refine RH.q hh (Calm.sq Calm.body) rfl (by kernel_rfl) (Qt.fld rfl) ?_
  refine RH.q hh (Calm.sq Calm.body) rfl (by kernel_rfl) (Qt.fld rfl) ?_
  refine RH.q hh (Calm.sq Calm.body) rfl (by kernel_rfl) (Qt.ld rfl (fun _ h => h) (by first  | rfl)) ?_
  refine RH.e hh rfl (by kernel_rfl) (Ef.call hS (bqForkR _ n lq) rfl rfl Try.call109 [2] [0, 1, 3, 4] (by decide) rfl rfl) ?_
  rintro v14 w ⟨ps, ⟨⟨bf, rfl⟩, rfl⟩, hS⟩
  refine ⟨(by first | exact hS.get 0 rfl | exact hS.get 1 rfl | exact hS.get 2 rfl | exact hS.get 3 rfl | exact hS.get 4 rfl | exact hS.get 5 rfl | exact hS.get 6 rfl), ?_⟩
  refine RH.e hh rfl (by kernel_rfl) (Ef.call hS (phFork _ n lh) rfl rfl Try.call40 [4] [0, 1, 2, 3, 5] (by decide) rfl rfl) ?_
  rintro v20 w ⟨ps, ⟨⟨bg, rfl⟩, rfl⟩, hS⟩
  refine ⟨(by first | exact hS.get 0 rfl | exact hS.get 1 rfl | exact hS.get 2 rfl | exact hS.get 3 rfl | exact hS.get 4 rfl | exact hS.get 5 rfl | exact hS.get 6 rfl), ?_⟩
  refine RH.q hh (Calm.sq Calm.body) rfl (by kernel_rfl) (Qt.bldV [.tmp 14, .tmp 20] rfl rfl (by kernel_rfl)) ?_
  refine RH.q hh (Calm.sq Calm.body) rfl (by kernel_rfl) (Qt.fld rfl) ?_
  first | refine RH.e0 hh rfl (by kernel_rfl) (Ef.st hS 0 rfl rfl rfl (by rfl) (by rfl) (by first | exact Nat.le_of_ble_eq_true rfl | omega | (simp only [Array.size_map]; omega))) ?_ | refine RH.e0 hh rfl (by kernel_rfl) (Ef.st hS 1 rfl rfl rfl (by rfl) (by rfl) (by first | exact Nat.le_of_ble_eq_true rfl | omega | (simp only [Array.size_map]; omega))) ?_ | refine RH.e0 hh rfl (by kernel_rfl) (Ef.st hS 2 rfl rfl rfl (by rfl) (by rfl) (by first | exact Nat.le_of_ble_eq_true rfl | omega | (simp only [Array.size_map]; omega))) ?_ | refine RH.e0 hh rfl (by kernel_rfl) (Ef.st hS 3 rfl rfl rfl (by rfl) (by rfl) (by first | exact Nat.le_of_ble_eq_true rfl | omega | (simp only [Array.size_map]; omega))) ?_ | refine RH.e0 hh rfl (by kernel_rfl) (Ef.st hS 4 rfl rfl rfl (by rfl) (by rfl) (by first | exact Nat.le_of_ble_eq_true rfl | omega | (simp only [Array.size_map]; omega))) ?_ | refine RH.e0 hh rfl (by kernel_rfl) (Ef.st hS 5 rfl rfl rfl (by rfl) (by rfl) (by first | exact Nat.le_of_ble_eq_true rfl | omega | (simp only [Array.size_map]; omega))) ?_ | refine RH.e0 hh rfl (by kernel_rfl) (Ef.st hS 6 rfl rfl rfl (by rfl) (by rfl) (by first | exact Nat.le_of_ble_eq_true rfl | omega | (simp only [Array.size_map]; omega))) ?_
  intro _ w hS
  simp (disch := omega) only [cells_agg', Nat.zero_add, wr] at hS
  refine ⟨(by first | exact hS.get 0 rfl | exact hS.get 1 rfl | exact hS.get 2 rfl | exact hS.get 3 rfl | exact hS.get 4 rfl | exact hS.get 5 rfl | exact hS.get 6 rfl), ?_⟩
  refine RH.done hh (by kernel_rfl) ?_
  refine RL.nil ?_
  refine RE.sqN ?_
  refine RC.seq ?_
  refine RC.region rfl ?_
  refine RL.q (Qt.as rfl) ?_
  refine RL.nil ?_
  refine RE.sqN ?_
  refine RC.ret ?_
  -- stops: end ret
  have h1 : Sat oo w (pt b3 (.cells #[.pointer (some ⟨bf, 0, none⟩), .pointer (some ⟨bg, 0, none⟩), .int .i64 n, .int .i64 most, .int .u64 seq] 130 (0, 0)) :: qO (.pointer (some ⟨bf, 0, none⟩)) n lq :: hO (.pointer (some ⟨bg, 0, none⟩)) n lh ::
      [pt b (.cells #[.pointer (some ⟨bq, 0, none⟩), .pointer (some ⟨bh, 0, none⟩), .int .i64 n, .int .i64 most, .int .u64 seq] 130 (0, 0)), qO (.pointer (some ⟨bq, 0, none⟩)) n lq, hO (.pointer (some ⟨bh, 0, none⟩)) n lh, R]) := hS.pick [4, 2, 0, 5, 3, 1, 6] (by decide) rfl
  have h2 := sO_shut hI hs0 hs1 h1
  have h3 := sO_shut hI hs0 hs1 (h2.pick [1, 2, 3, 0, 4] (by decide) rfl)
  exact RE.retB rfl ⟨⟨b3, rfl⟩, rfl⟩ h3.swap

set_option maxHeartbeats 1000000 in
theorem rdNew (n most : Int) (h0 : 1 ≤ n) (h1 : n ≤ 1024) (h2 : 1 ≤ most) (h3 : most ≤ n) : Ct Try.prog 67 #[.int .i64 n, .int .i64 most] [] (fun v ps => (∃ b, v = .pointer (some ⟨b, 0, none⟩)) ∧ ps = [sO v n.toNat most 0 []]) := by
  refine Ct.enter Try.func67 rfl (Nat.le_of_ble_eq_true rfl) ?_
  intro oo w R hS
  change RC _ _ _ _ _ _ [(0, _), (1, _)] _
  refine RC.seq ?_
  refine RC.region rfl ?_
  refine RL.q (Qt.as rfl) ?_
  refine RL.nil ?_
  refine RE.sqN ?_
  refine RC.seq ?_
  refine RC.seq ?_
  refine RC.region rfl ?_
  refine RL.q (Qt.mv rfl) ?_
  refine RL.q (Qt.lss rfl rfl) ?_
  refine RL.q (Qt.mv rfl) ?_
  refine RLG.start 7 false rfl ?_
  refine RLG.q rfl rfl rfl (fun _ => Qt.mv rfl) ?_
  refine RLG.q rfl rfl rfl (fun hg => by (try simp only [decide_eq_false_iff_not] at hg); exact Qt.gtr rfl rfl) ?_
  refine RLG.or rfl rfl ?_
  refine RL.q (Qt.mv rfl) ?_
  refine RLG.start 11 false rfl ?_
  refine RLG.q rfl rfl rfl (fun _ => Qt.mv rfl) ?_
  refine RLG.q rfl rfl rfl (fun hg => by (try simp only [decide_eq_false_iff_not, Bool.or_eq_false_iff] at hg); exact Qt.lss rfl rfl) ?_
  refine RLG.or rfl rfl ?_
  refine RL.q (Qt.mv rfl) ?_
  refine RLG.start 15 false rfl ?_
  refine RLG.q rfl rfl rfl (fun _ => Qt.mv rfl) ?_
  refine RLG.q rfl rfl rfl (fun _ => Qt.mv rfl) ?_
  refine RLG.q rfl rfl rfl (fun hg => by (try simp only [decide_eq_false_iff_not, Bool.or_eq_false_iff] at hg); exact Qt.gtr rfl rfl) ?_
  refine RLG.or rfl rfl ?_
  refine RL.nil ?_
  refine RE.sqN ?_
  -- stops: cond
  refine RC.condF rfl (by simp; omega) ?_
  refine RC.skip ?_
  refine RE.sqN ?_
  refine RC.seq ?_
  refine RC.region rfl ?_
  refine RL.q (Qt.mv rfl) ?_
  -- stops: op call
  refine RL.e (Ef.call hS (bqNewR n h0 h1) rfl rfl Try.call115 [] [0] (by decide) rfl rfl) ?_
  rintro v21 w ⟨ps, ⟨⟨bf, rfl⟩, rfl⟩, hS⟩
  refine RL.q (Qt.mv rfl) ?_
  -- stops: op call
  refine RL.e (Ef.call hS (phNew n h0 h1) rfl rfl Try.call43 [] [0, 1] (by decide) rfl rfl) ?_
  rintro v23 w ⟨ps, ⟨⟨bg, rfl⟩, rfl⟩, hS⟩
  refine RL.q (Qt.bldV [.tmp 21, .tmp 23] rfl rfl (by kernel_rfl)) ?_
  refine RL.q (Qt.mv rfl) ?_
  refine RL.q (Qt.mv rfl) ?_
  refine RL.q (Qt.bldV [.tmp 24, .tmp 25, .tmp 26, .const (Go.Value.int Go.IntKind.u64 0)] rfl rfl (by kernel_rfl)) ?_
  refine RL.e (Ef.box hS rfl) ?_
  rintro _ w ⟨b28, rfl, hS⟩
  try simp (disch := omega) only [cells_agg'] at hS
  refine RL.q (Qt.as rfl) ?_
  refine RL.nil ?_
  refine RE.sqN ?_
  refine RC.ret ?_
  -- stops: end ret
  refine RE.retB rfl ⟨⟨_, rfl⟩, rfl⟩ (sO_shut (pq := .pointer (some ⟨bf, 0, none⟩)) (ph := .pointer (some ⟨bg, 0, none⟩)) RdI.nil (Int.le_refl _) (Int.le_refl _) ?_)
  rw [Int.toNat_of_nonneg (by omega)]
  exact hS.pick [0, 2, 1, 3] (by decide) rfl
theorem rdNewN (n most : Int) (h : n < 1 ∨ n > 1024 ∨ most < 1 ∨ most > n) : Ct Try.prog 67 #[.int .i64 n, .int .i64 most] [] (fun v ps => v = .pointer none ∧ ps = []) := by
  refine Ct.enter Try.func67 rfl (Nat.le_of_ble_eq_true rfl) ?_
  intro oo w R hS
  change RC _ _ _ _ _ _ [(0, _), (1, _)] _
  refine RC.seq ?_
  refine RC.region rfl ?_
  refine RL.q (Qt.as rfl) ?_
  refine RL.nil ?_
  refine RE.sqN ?_
  refine RC.seq ?_
  refine RC.seq ?_
  refine RC.region rfl ?_
  refine RL.q (Qt.mv rfl) ?_
  refine RL.q (Qt.lss rfl rfl) ?_
  refine RL.q (Qt.mv rfl) ?_
  refine RLG.start 7 false rfl ?_
  refine RLG.q rfl rfl rfl (fun _ => Qt.mv rfl) ?_
  refine RLG.q rfl rfl rfl (fun hg => by (try simp only [decide_eq_false_iff_not] at hg); exact Qt.gtr rfl rfl) ?_
  refine RLG.or rfl rfl ?_
  refine RL.q (Qt.mv rfl) ?_
  refine RLG.start 11 false rfl ?_
  refine RLG.q rfl rfl rfl (fun _ => Qt.mv rfl) ?_
  refine RLG.q rfl rfl rfl (fun hg => by (try simp only [decide_eq_false_iff_not, Bool.or_eq_false_iff] at hg); exact Qt.lss rfl rfl) ?_
  refine RLG.or rfl rfl ?_
  refine RL.q (Qt.mv rfl) ?_
  refine RLG.start 15 false rfl ?_
  refine RLG.q rfl rfl rfl (fun _ => Qt.mv rfl) ?_
  refine RLG.q rfl rfl rfl (fun _ => Qt.mv rfl) ?_
  refine RLG.q rfl rfl rfl (fun hg => by (try simp only [decide_eq_false_iff_not, Bool.or_eq_false_iff] at hg); exact Qt.gtr rfl rfl) ?_
  refine RLG.or rfl rfl ?_
  refine RL.nil ?_
  refine RE.sqN ?_
  -- stops: cond
  refine RC.condT rfl (by simp; omega) ?_
  refine RC.seq ?_
  refine RC.region rfl ?_
  refine RL.q (Qt.as rfl) ?_
  refine RL.nil ?_
  refine RE.sqN ?_
  refine RC.ret ?_
  refine RE.sqR ?_
  -- stops: end ret
  exact RE.retB rfl ⟨rfl, rfl⟩ hS
end Go.Proofs

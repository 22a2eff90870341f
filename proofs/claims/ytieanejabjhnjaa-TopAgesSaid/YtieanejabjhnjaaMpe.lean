/- Part 5 of the proof engine and of what the functions come to. No condition. -/
import Derived.Test.YtieanejabjhnjaaMpd
import Derived.ProofKit
import Derived.Deep.Strs
import Derived.Lib.SmallJoins
import Derived.OpenShut
import Derived.Test.YtieanejabjhnjaaChecked
import Derived.JoinedOf
/- The heap of deadlines: New, Insert, Change, Delete, Min, Take, Get, List, Len, Fork. -/
namespace Go.Proofs
open Go Go.Gx
variable {oo : World}

set_option maxHeartbeats 2000000 in
theorem phInsert (p : Value) (n : Nat) (l : List PItem) (x : PItem) : Ct Try.prog 85 #[p, .int .i64 x.id, .int .u64 x.dl, .int .u64 x.sq] [hO p n l] (fun v ps => v = .int .i64 (pErr l n x.id false) ∧ ps = [hO p n (pIns l n x)]) := by
  refine Ct.enter Try.func85 rfl (Nat.le_of_ble_eq_true rfl) ?_
  intro oo w R hS
  change RC _ _ _ _ _ _ [(0, _), (1, _), (2, _), (3, _)] _
  refine RC.seq ?_
  refine RC.region rfl ?_
  refine RL.q (Qt.as rfl) ?_
  refine RL.nil ?_
  refine RE.sqN ?_
  refine RC.seq ?_
  refine RC.seq ?_
  refine RC.region rfl ?_
  refine RL.q (Qt.mv rfl) ?_
  refine RL.q (Qt.mv rfl) ?_
  refine RL.e (Ef.call hS (phMay p n l x.id false) rfl rfl Try.call87 [0] [1] (by decide) rfl rfl) ?_
  rintro v12 w ⟨ps, ⟨rfl, rfl⟩, hS⟩
  refine RL.q (Qt.as rfl) ?_
  refine RL.nil ?_
  refine RE.sqN ?_
  refine RC.seq ?_
  refine RC.region rfl ?_
  refine RL.q (Qt.mv rfl) ?_
  refine RL.q (Qt.neq rfl rfl) ?_
  refine RL.nil ?_
  refine RE.sqN ?_
  refine RC.cond rfl (fun h => ?_) (fun h => ?_)
  · refine RC.seq ?_
    refine RC.region rfl ?_
    refine RL.q (Qt.mv rfl) ?_
    refine RL.q (Qt.as rfl) ?_
    refine RL.nil ?_
    refine RE.sqN ?_
    refine RC.ret ?_
    refine RE.sqR ?_
    have h : ¬ pErr l n x.id false = 0 := by simpa using h
    exact RE.retB rfl ⟨rfl, by rw [show pIns l n x = l from if_neg h]⟩ hS
  · skip
    have h : pErr l n x.id false = 0 := by simpa using h
    obtain ⟨h0, hx⟩ := pErr_is0 h
    rw [h, show pIns l n x = pput x l from if_pos h]
    obtain ⟨f, root, many, tr, b, bl, cap, rfl, hi, hn1, hn2, hS⟩ := hO_open hS
    have hlen := hi.lenLe
    have hmany := hi.many
    have hi' := hi.insert h0 hx
    have hbI : Bd n (insF f x) := fun i g0 g1 => by
      obtain ⟨a, b, c⟩ := hi.bd i g0 g1
      exact ⟨upd_in (by omega) a, upd_in (by omega) b, upd_in (by omega) c⟩
    have hrt : -1 ≤ root ∧ root < n := by
      rw [hi.root]
      rcases tr.root_mem with ⟨e, _⟩ | e
      · omega
      · obtain ⟨y, hy, e⟩ := List.mem_map.1 (hi.ids.mem_iff.1 e)
        have := hi.range y hy
        omega
    obtain ⟨c, hc, hS⟩ := hS.tabOpen 1 rfl
    try simp only [List.set_cons_zero, List.set_cons_succ] at hS
    have hsz := hc.size
    have hcz := psI hc h0.1 h0.2
    refine RC.skip ?_
    refine RE.sqN ?_
    refine RC.seq ?_
    refine RC.region rfl ?_
    refine RL.q (Qt.mv rfl) ?_
    refine RL.q (Qt.nil rfl) ?_
    refine RL.q (Qt.fld rfl) ?_
    refine RL.q (Qt.ld rfl (by exact hS.at 0 rfl) (by first  | rfl)) ?_
    refine RL.q (Qt.mv rfl) ?_
    refine RL.q (Qt.mv rfl) ?_
    refine RL.q (Qt.mv rfl) ?_
    refine RL.q (Qt.bldV [.tmp 21, .tmp 22] rfl rfl (by kernel_rfl)) ?_
    refine RL.q (Qt.bldV [.tmp 23, .const (Go.Value.int Go.IntKind.i64 (-1)), .const (Go.Value.int Go.IntKind.i64 (-1)), .const (Go.Value.int Go.IntKind.i64 (-1)), .const (Go.Value.bool true)] rfl rfl (by kernel_rfl)) ?_
    refine RL.q (Qt.ixS rfl rfl (by omega) (by omega)) ?_
    refine RL.e0 (Ef.st hS 1 rfl rfl rfl (by rfl) (by rfl) (by omega)) ?_
    intro _ w hS
    simp (disch := omega) only [List.set_cons_zero, List.set_cons_succ, cells_agg', Nat.zero_add, List.set_cons_zero] at hS
    refine RL.nil ?_
    refine RE.sqN ?_
    refine RC.seq ?_
    refine RC.region rfl ?_
    refine RL.q (Qt.mv rfl) ?_
    refine RL.q (Qt.mv rfl) ?_
    refine RL.q (Qt.mv rfl) ?_
    refine RL.q (Qt.nil rfl) ?_
    refine RL.q (Qt.fld rfl) ?_
    refine RL.q (Qt.ld rfl (by exact hS.at 0 rfl) (by first  | rfl)) ?_
    refine RL.q (Qt.mv rfl) ?_
    have hS := hS.tabShut 1 rfl hcz
    refine RL.e (Ef.call hS (phMeld b bl n cap (insF f x) root many root x.id hbI hrt (by omega)) rfl rfl Try.call100 [0, 1] [2] (by decide) rfl rfl) ?_
    rintro v33 w ⟨ps, ⟨rfl, rfl⟩, hS⟩
    refine RL.q (Qt.nil rfl) ?_
    refine RL.q (Qt.fld rfl) ?_
    refine RL.e0 (Ef.st hS 0 rfl rfl rfl (by rfl) (by rfl) (by exact Nat.le_of_ble_eq_true rfl)) ?_
    intro _ w hS
    simp (disch := omega) only [List.set_cons_zero, List.set_cons_succ, cells_int', Nat.zero_add, wr, List.setIfInBounds_toArray] at hS
    refine RL.nil ?_
    refine RE.sqN ?_
    refine RC.seq ?_
    refine RC.region rfl ?_
    refine RL.q (Qt.mv rfl) ?_
    refine RL.q (Qt.nil rfl) ?_
    refine RL.q (Qt.fld rfl) ?_
    refine RL.q (Qt.ld rfl (by exact hS.at 0 rfl) (by first  | rfl)) ?_
    refine RL.q ((by exact Qt.addI rfl rfl (by dsimp only [inK]; omega))) ?_
    refine RL.q (Qt.nil rfl) ?_
    refine RL.q (Qt.fld rfl) ?_
    refine RL.e0 (Ef.st hS 0 rfl rfl rfl (by rfl) (by rfl) (by exact Nat.le_of_ble_eq_true rfl)) ?_
    intro _ w hS
    simp (disch := omega) only [List.set_cons_zero, List.set_cons_succ, cells_int', Nat.zero_add, wr, List.setIfInBounds_toArray] at hS
    refine RL.nil ?_
    refine RE.sqN ?_
    refine RC.seq ?_
    refine RC.region rfl ?_
    refine RL.q (Qt.as rfl) ?_
    refine RL.nil ?_
    refine RE.sqN ?_
    refine RC.ret ?_
    exact RE.retB rfl ⟨rfl, rfl⟩ (hO_shut hi' hn1 hn2 hS)

set_option maxHeartbeats 1000000 in
theorem phDelete (p : Value) (n : Nat) (l : List PItem) (id : Int) : Ct Try.prog 96 #[p, .int .i64 id] [hO p n l] (fun v ps => v = .int .i64 (pErr l n id true) ∧ ps = [hO p n (pDel l n id)]) := by
  refine Ct.enter Try.func96 rfl (Nat.le_of_ble_eq_true rfl) ?_
  intro oo w R hS
  change RC _ _ _ _ _ _ [(0, _), (1, _)] _
  refine RC.seq ?_
  refine RC.region rfl ?_
  refine RL.q (Qt.as rfl) ?_
  refine RL.nil ?_
  refine RE.sqN ?_
  refine RC.seq ?_
  refine RC.seq ?_
  refine RC.region rfl ?_
  refine RL.q (Qt.mv rfl) ?_
  refine RL.q (Qt.mv rfl) ?_
  refine RL.e (Ef.call hS (phMay p n l id true) rfl rfl Try.call87 [0] [1] (by decide) rfl rfl) ?_
  rintro v8 w ⟨ps, ⟨rfl, rfl⟩, hS⟩
  refine RL.q (Qt.as rfl) ?_
  refine RL.nil ?_
  refine RE.sqN ?_
  refine RC.seq ?_
  refine RC.region rfl ?_
  refine RL.q (Qt.mv rfl) ?_
  refine RL.q (Qt.neq rfl rfl) ?_
  refine RL.nil ?_
  refine RE.sqN ?_
  refine RC.cond rfl (fun h => ?_) (fun h => ?_)
  · refine RC.seq ?_
    refine RC.region rfl ?_
    refine RL.q (Qt.mv rfl) ?_
    refine RL.q (Qt.as rfl) ?_
    refine RL.nil ?_
    refine RE.sqN ?_
    refine RC.ret ?_
    refine RE.sqR ?_
    have h : ¬ pErr l n id true = 0 := by simpa using h
    exact RE.retB rfl ⟨rfl, by rw [show pDel l n id = l from if_neg h]⟩ hS
  · skip
    have h : pErr l n id true = 0 := by simpa using h
    obtain ⟨h0, hx⟩ := pErr_is1 h
    refine RC.skip ?_
    refine RE.sqN ?_
    refine RC.seq ?_
    refine RC.region rfl ?_
    refine RL.q (Qt.mv rfl) ?_
    refine RL.q (Qt.mv rfl) ?_
    refine RL.e (Ef.call hS (phOut p n l id hx) rfl rfl Try.call103 [0] [1] (by decide) rfl rfl) ?_
    rintro v14 w ⟨ps, ⟨rfl, rfl⟩, hS⟩
    refine RL.nil ?_
    refine RE.sqN ?_
    refine RC.seq ?_
    refine RC.region rfl ?_
    refine RL.q (Qt.as rfl) ?_
    refine RL.nil ?_
    refine RE.sqN ?_
    refine RC.ret ?_
    exact RE.retB rfl ⟨by rw [h]; rfl, by rw [show pDel l n id = pout l id from if_pos h]⟩ hS

set_option maxHeartbeats 1000000 in
theorem phMin (p : Value) (n : Nat) (l : List PItem) : Ct Try.prog 67 #[p] [hO p n l] (fun v ps => v = .tuple #[.int .i64 (pMinId l), .bool (pMinOk l)] ∧ ps = [hO p n l]) := by
  refine Ct.enter Try.func67 rfl (Nat.le_of_ble_eq_true rfl) ?_
  intro oo w R hS
  change RC _ _ _ _ _ _ [(0, _)] _
  obtain ⟨f, root, many, tr, b, bl, cap, rfl, hi, hn1, hn2, hS⟩ := hO_open hS
  refine RC.seq ?_
  refine RC.region rfl ?_
  refine RL.q (Qt.as rfl) ?_
  refine RL.q (Qt.as rfl) ?_
  refine RL.nil ?_
  refine RE.sqN ?_
  refine RC.seq ?_
  refine RC.seq ?_
  refine RC.region rfl ?_
  refine RL.q (Qt.mv rfl) ?_
  refine RL.q (Qt.eqlN rfl rfl) ?_
  refine RL.q (Qt.mv rfl) ?_
  refine RLG.start 6 false rfl ?_
  refine RLG.q rfl rfl rfl (fun _ => Qt.mv rfl) ?_
  refine RLG.q rfl rfl rfl (fun _ => Qt.nil rfl) ?_
  refine RLG.q rfl rfl rfl (fun _ => Qt.fld rfl) ?_
  refine RLG.q rfl rfl rfl (fun hg => by (try simp only [Option.isNone_some] at hg); exact Qt.ld rfl (by exact hS.at 0 rfl) (by first  | rfl)) ?_
  refine RLG.q rfl rfl rfl (fun hg => by (try simp only [Option.isNone_some] at hg); exact Qt.eql rfl rfl) ?_
  refine RLG.or rfl rfl ?_
  refine RL.nil ?_
  refine RE.sqN ?_
  have hemp := hi.empty
  refine RC.cond rfl (fun h => ?_) (fun h => ?_)
  · refine RC.seq ?_
    refine RC.region rfl ?_
    refine RL.q (Qt.as rfl) ?_
    refine RL.q (Qt.as rfl) ?_
    refine RL.nil ?_
    refine RE.sqN ?_
    refine RC.ret ?_
    refine RE.sqR ?_
    have h : root = -1 := by simpa using h
    have e := hemp.1 h
    exact RE.retB rfl ⟨by rw [e]; rfl, rfl⟩ (hO_shut hi hn1 hn2 hS)
  · skip
    have h : ¬ root = -1 := by simpa using h
    cases l with
    | nil => exact absurd (hemp.2 rfl) h
    | cons x l =>
      have hh := hi.head
      subst hh
      refine RC.skip ?_
      refine RE.sqN ?_
      refine RC.seq ?_
      refine RC.region rfl ?_
      refine RL.q (Qt.mv rfl) ?_
      refine RL.q (Qt.nil rfl) ?_
      refine RL.q (Qt.fld rfl) ?_
      refine RL.q (Qt.ld rfl (by exact hS.at 0 rfl) (by first  | rfl)) ?_
      refine RL.q (Qt.as rfl) ?_
      refine RL.q (Qt.as rfl) ?_
      refine RL.nil ?_
      refine RE.sqN ?_
      refine RC.ret ?_
      exact RE.retB rfl ⟨rfl, rfl⟩ (hO_shut hi hn1 hn2 hS)

set_option maxHeartbeats 1000000 in
theorem phTake (p : Value) (n : Nat) (l : List PItem) : Ct Try.prog 90 #[p] [hO p n l] (fun v ps => v = .tuple #[.int .i64 (pMinId l), .bool (pMinOk l)] ∧ ps = [hO p n l.tail]) := by
  refine Ct.enter Try.func90 rfl (Nat.le_of_ble_eq_true rfl) ?_
  intro oo w R hS
  change RC _ _ _ _ _ _ [(0, _)] _
  have hok := (hO_pok hS).1
  refine RC.seq ?_
  refine RC.region rfl ?_
  refine RL.q (Qt.as rfl) ?_
  refine RL.q (Qt.as rfl) ?_
  refine RL.nil ?_
  refine RE.sqN ?_
  refine RC.seq ?_
  refine RC.region rfl ?_
  refine RL.q (Qt.mv rfl) ?_
  refine RL.e (Ef.call hS (phMin p n l) rfl rfl Try.call67 [0] [1] (by decide) rfl rfl) ?_
  rintro v6 w ⟨ps, ⟨rfl, rfl⟩, hS⟩
  refine RL.q (Qt.mv rfl) ?_
  refine RL.q (Qt.ext rfl rfl) ?_
  refine RL.q (Qt.ext rfl rfl) ?_
  refine RL.q (Qt.as rfl) ?_
  refine RL.q (Qt.as rfl) ?_
  refine RL.nil ?_
  refine RE.sqN ?_
  refine RC.seq ?_
  refine RC.seq ?_
  refine RC.region rfl ?_
  refine RL.q (Qt.mv rfl) ?_
  refine RL.nil ?_
  refine RE.sqN ?_
  refine RC.cond rfl (fun h => ?_) (fun h => ?_)
  · skip
    cases l with
    | nil => cases h
    | cons x l =>
      refine RC.region rfl ?_
      refine RL.q (Qt.mv rfl) ?_
      refine RL.q (Qt.mv rfl) ?_
      refine RL.e (Ef.call hS (phOut p n (x :: l) x.id (by simp [pIds])) rfl rfl Try.call103 [0] [1] (by decide) rfl rfl) ?_
      rintro v12 w ⟨ps, ⟨rfl, rfl⟩, hS⟩
      refine RL.nil ?_
      refine RE.sqN ?_
      refine RC.seq ?_
      refine RC.region rfl ?_
      refine RL.q (Qt.mv rfl) ?_
      refine RL.q (Qt.mv rfl) ?_
      refine RL.q (Qt.as rfl) ?_
      refine RL.q (Qt.as rfl) ?_
      refine RL.nil ?_
      refine RE.sqN ?_
      refine RC.ret ?_
      exact RE.retB rfl ⟨rfl, by rw [pout_head hok.nodup]; rfl⟩ hS
  · refine RC.skip ?_
    refine RE.sqN ?_
    refine RC.seq ?_
    refine RC.region rfl ?_
    refine RL.q (Qt.mv rfl) ?_
    refine RL.q (Qt.mv rfl) ?_
    refine RL.q (Qt.as rfl) ?_
    refine RL.q (Qt.as rfl) ?_
    refine RL.nil ?_
    refine RE.sqN ?_
    refine RC.ret ?_
    cases l with
    | nil => exact RE.retB rfl ⟨rfl, rfl⟩ hS
    | cons x l => cases h

set_option maxHeartbeats 1000000 in
theorem phGet (p : Value) (n : Nat) (l : List PItem) (id : Int) : Ct Try.prog 68 #[p, .int .i64 id] [hO p n l] (fun v ps => v = pGet l id ∧ ps = [hO p n l]) := by
  refine Ct.enter Try.func68 rfl (Nat.le_of_ble_eq_true rfl) ?_
  intro oo w R hS
  change RC _ _ _ _ _ _ [(0, _), (1, _)] _
  have hok := (hO_pok hS).1
  refine RC.seq ?_
  refine RC.region rfl ?_
  refine RL.q (Qt.as rfl) ?_
  refine RL.q (Qt.as rfl) ?_
  refine RL.q (Qt.as rfl) ?_
  refine RL.nil ?_
  refine RE.sqN ?_
  refine RC.seq ?_
  refine RC.seq ?_
  refine RC.region rfl ?_
  refine RL.q (Qt.mv rfl) ?_
  refine RL.q (Qt.mv rfl) ?_
  refine RL.e (Ef.call hS (phMay p n l id true) rfl rfl Try.call87 [0] [1] (by decide) rfl rfl) ?_
  rintro v9 w ⟨ps, ⟨rfl, rfl⟩, hS⟩
  refine RL.q (Qt.neq rfl rfl) ?_
  refine RL.nil ?_
  refine RE.sqN ?_
  refine RC.cond rfl (fun h => ?_) (fun h => ?_)
  · refine RC.seq ?_
    refine RC.region rfl ?_
    refine RL.q (Qt.as rfl) ?_
    refine RL.q (Qt.as rfl) ?_
    refine RL.q (Qt.as rfl) ?_
    refine RL.nil ?_
    refine RE.sqN ?_
    refine RC.ret ?_
    refine RE.sqR ?_
    have h : ¬ pErr l n id true = 0 := by simpa using h
    have hx : id ∉ pIds l := fun hx => h (pErr_ok1 (by
      obtain ⟨y, hy, e⟩ := List.mem_map.1 hx
      have := hok.range y hy
      omega) hx)
    exact RE.retB rfl ⟨by rw [pGet_none hx]; rfl, rfl⟩ hS
  · skip
    have h : pErr l n id true = 0 := by simpa using h
    obtain ⟨h0, hx⟩ := pErr_is1 h
    obtain ⟨y, hy, rfl⟩ := List.mem_map.1 hx
    obtain ⟨f, root, many, tr, b, bl, cap, rfl, hi, hn1, hn2, hS⟩ := hO_open hS
    have hv := hi.vals y hy
    have hS0 := hS
    obtain ⟨c, hc, hS⟩ := hS.tabOpen 1 rfl
    try simp only [List.set_cons_zero, List.set_cons_succ] at hS
    have hsz := hc.size
    have hd : f.dl y.id = y.dl := congrArg PItem.dl hv
    have hs : f.sq y.id = y.sq := congrArg PItem.sq hv
    refine RC.skip ?_
    refine RE.sqN ?_
    refine RC.seq ?_
    refine RC.drawn 21 [0, 1, 2, 3, 4, 5, 6, 7, 8, 9, 10, 11, 12, 13, 14, 15, 16, 17, 18, 19, 20] (Same _) (by kernel_rfl) (by kernel_rfl) Same.drew (fun hh => ?_)
    replace hS := hS.drew
    refine RH.q hh (Calm.sq Calm.body) rfl (by kernel_rfl) (Qt.mv rfl) ?_
    refine RH.q hh (Calm.sq Calm.body) rfl (by kernel_rfl) (Qt.nil rfl) ?_
    refine RH.q hh (Calm.sq Calm.body) rfl (by kernel_rfl) (Qt.fld rfl) ?_
    refine RH.q hh (Calm.sq Calm.body) rfl (by kernel_rfl) (Qt.ld rfl (by exact hS.at 0 rfl) (by rfl)) ?_
    refine RH.q hh (Calm.sq Calm.body) rfl (by kernel_rfl) (Qt.mv rfl) ?_
    refine RH.q hh (Calm.sq Calm.body) rfl (by kernel_rfl) (Qt.ixS rfl rfl (by omega) (by omega)) ?_
    refine RH.q hh (Calm.sq Calm.body) rfl (by kernel_rfl) (Qt.fld rfl) ?_
    refine RH.q hh (Calm.sq Calm.body) rfl (by kernel_rfl) (Qt.fld rfl) ?_
    refine RH.q hh (Calm.sq Calm.body) rfl (by kernel_rfl) (Qt.ld rfl (by exact hS.at 1 rfl) (by exact pr0 hc h0.1 h0.2)) ?_
    refine RH.q hh (Calm.sq Calm.body) rfl (by kernel_rfl) (Qt.mv rfl) ?_
    refine RH.q hh (Calm.sq Calm.body) rfl (by kernel_rfl) (Qt.nil rfl) ?_
    refine RH.q hh (Calm.sq Calm.body) rfl (by kernel_rfl) (Qt.fld rfl) ?_
    refine RH.q hh (Calm.sq Calm.body) rfl (by kernel_rfl) (Qt.ld rfl (by exact hS.at 0 rfl) (by rfl)) ?_
    refine RH.q hh (Calm.sq Calm.body) rfl (by kernel_rfl) (Qt.mv rfl) ?_
    refine RH.q hh (Calm.sq Calm.body) rfl (by kernel_rfl) (Qt.ixS rfl rfl (by omega) (by omega)) ?_
    refine RH.q hh (Calm.sq Calm.body) rfl (by kernel_rfl) (Qt.fld rfl) ?_
    refine RH.q hh (Calm.sq Calm.body) rfl (by kernel_rfl) (Qt.fld rfl) ?_
    refine RH.q hh (Calm.sq Calm.body) rfl (by kernel_rfl) (Qt.ld rfl (by exact hS.at 1 rfl) (by exact pr1 hc h0.1 h0.2)) ?_
    refine RH.q hh (Calm.sq Calm.body) rfl (by kernel_rfl) (Qt.as rfl) ?_
    refine RH.q hh (Calm.sq Calm.body) rfl (by kernel_rfl) (Qt.as rfl) ?_
    refine RH.q hh (Calm.sq Calm.body) rfl (by kernel_rfl) (Qt.as rfl) ?_
    refine RH.done hh (by kernel_rfl) ?_
    refine RL.nil ?_
    refine RE.sqN ?_
    refine RC.ret ?_
    exact RE.retB rfl ⟨by rw [pGet_some hok.nodup hy, ← hd, ← hs]; rfl, rfl⟩ (hO_shut hi hn1 hn2 (hS.tabShut 1 rfl hc))

set_option maxHeartbeats 1000000 in
theorem phLen (p : Value) (n : Nat) (l : List PItem) : Ct Try.prog 63 #[p] [hO p n l] (fun v ps => v = .int .i64 l.length ∧ ps = [hO p n l]) := by
  refine Ct.enter Try.func63 rfl (Nat.le_of_ble_eq_true rfl) ?_
  intro oo w R hS
  change RC _ _ _ _ _ _ [(0, _)] _
  obtain ⟨f, root, many, tr, b, bl, cap, rfl, hi, hn1, hn2, hS⟩ := hO_open hS
  have hm := hi.many
  subst hm
  refine RC.seq ?_
  refine RC.region rfl ?_
  refine RL.q (Qt.as rfl) ?_
  refine RL.nil ?_
  refine RE.sqN ?_
  refine RC.seq ?_
  refine RC.seq ?_
  refine RC.region rfl ?_
  refine RL.q (Qt.mv rfl) ?_
  refine RL.q (Qt.eqlN rfl rfl) ?_
  refine RL.nil ?_
  refine RE.sqN ?_
  refine RC.condF rfl (rfl) ?_
  refine RC.skip ?_
  refine RE.sqN ?_
  refine RC.seq ?_
  refine RC.region rfl ?_
  refine RL.q (Qt.mv rfl) ?_
  refine RL.q (Qt.nil rfl) ?_
  refine RL.q (Qt.fld rfl) ?_
  refine RL.q (Qt.ld rfl (by exact hS.at 0 rfl) (by first  | rfl)) ?_
  refine RL.q (Qt.as rfl) ?_
  refine RL.nil ?_
  refine RE.sqN ?_
  refine RC.ret ?_
  exact RE.retB rfl ⟨rfl, rfl⟩ (hO_shut hi hn1 hn2 hS)
end Go.Proofs

/- The heap of deadlines: New, Fork, List. -/
namespace Go.Proofs
open Go Go.Gx
variable {oo : World}

set_option maxHeartbeats 1000000 in
theorem phClone (f : PH) (n bl cap : Nat) (h0 : 1 ≤ n) (h1 : n ≤ 1024) : Ct Try.prog 98 #[.slice (some ⟨bl, 0, none⟩) n cap] [hT bl n f]
    (fun v ps => ∃ b' cap', v = .slice (some ⟨b', 0, none⟩) n cap' ∧ ps = [hT b' n f, hT bl n f]) := by
  refine Ct.enter Try.func98 rfl (Nat.le_of_ble_eq_true rfl) ?_
  intro oo w R hS
  change RC _ _ _ _ _ _ [(0, _)] _
  obtain ⟨c0, h, hS⟩ := hS.tabOpen 0 rfl
  have hsz := h.size
  refine RC.seq ?_
  refine RC.region rfl ?_
  refine RL.q (Qt.as rfl) ?_
  refine RL.nil ?_
  refine RE.sqN ?_
  refine RC.seq ?_
  refine RC.seq ?_
  refine RC.region rfl ?_
  refine RL.q (Qt.mv rfl) ?_
  refine RL.q (Qt.eqlS rfl rfl) ?_
  refine RL.nil ?_
  refine RE.sqN ?_
  refine RC.condF rfl (rfl) ?_
  refine RC.skip ?_
  refine RE.sqN ?_
  refine RC.seq ?_
  refine RC.region rfl ?_
  refine RL.e (Ef.bsl0 hS) ?_
  rintro _ w ⟨b5, rfl, hS⟩
  try simp (disch := omega) only [List.set_cons_zero, List.set_cons_succ, cells_int, cells_bool, cells_ptr, cells_slice, cells_func, cells_agg, cells_map, cells_int', cells_bool', cells_ptr', cells_slice', cells_agg', cells_map', cells_func', Nat.zero_add, wr, List.setIfInBounds_toArray] at hS
  refine RL.q (Qt.mv rfl) ?_
  refine RL.e (Ef.app (k := 0) hS rfl rfl rfl (Src.pt (hS.get 1 rfl) (by omega)) (by omega) (h.plain (fun _ => rfl))) ?_
  intro s7 w hS
  simp only [List.set_cons_zero, List.drop_zero] at hS
  (obtain ⟨sp7, cp7, rfl⟩ := hS.ownForm 0 rfl)
  refine RL.q (Qt.as rfl) ?_
  refine RL.nil ?_
  refine RE.sqN ?_
  refine RC.ret ?_
  obtain ⟨b, cap', c', hv, hc1, hc2, hc3, hc4, hS⟩ := hS.ownPos 0 rfl (by omega)
  cases hv
  simp only [Nat.zero_add, List.nil_append] at hc3 hc4
  have hS := (hS.tabShut 0 rfl (h.copy (by have := Nat.mul_le_mul_right 6 hc2; omega) hc4)).tabShut 1 rfl h
  exact RE.retB rfl ⟨_, cp7, by simp only [oneOf, Nat.zero_add], rfl⟩ hS

set_option maxHeartbeats 1000000 in
theorem phFork (p : Value) (n : Nat) (l : List PItem) : Ct Try.prog 80 #[p] [hO p n l] (fun v ps => (∃ b, v = .pointer (some ⟨b, 0, none⟩)) ∧ ps = [hO v n l, hO p n l]) := by
  refine Ct.enter Try.func80 rfl (Nat.le_of_ble_eq_true rfl) ?_
  intro oo w R hS
  change RC _ _ _ _ _ _ [(0, _)] _
  obtain ⟨f, root, many, tr, b, bl, cap, rfl, hi, hn1, hn2, hS⟩ := hO_open hS
  refine RC.seq ?_
  refine RC.region rfl ?_
  refine RL.q (Qt.as rfl) ?_
  refine RL.nil ?_
  refine RE.sqN ?_
  refine RC.seq ?_
  refine RC.seq ?_
  refine RC.region rfl ?_
  refine RL.q (Qt.mv rfl) ?_
  refine RL.q (Qt.eqlN rfl rfl) ?_
  refine RL.nil ?_
  refine RE.sqN ?_
  refine RC.condF rfl (rfl) ?_
  refine RC.skip ?_
  refine RE.sqN ?_
  refine RC.seq ?_
  refine RC.drawn 16 [0, 1, 2, 3, 5, 6, 7, 8, 9, 10, 11, 12, 4, 13, 14, 15] (fun w' => w'.heap[b]? = some (hC bl n cap root many)) (by kernel_rfl) (by kernel_rfl) (hS.drew.get 0 rfl) (fun hh => ?_)
  replace hS := hS.drew
  refine RH.q hh (Calm.sq Calm.body) rfl (by kernel_rfl) (Qt.mv rfl) ?_
  refine RH.q hh (Calm.sq Calm.body) rfl (by kernel_rfl) (Qt.nil rfl) ?_
  refine RH.q hh (Calm.sq Calm.body) rfl (by kernel_rfl) (Qt.fld rfl) ?_
  refine RH.q hh (Calm.sq Calm.body) rfl (by kernel_rfl) (Qt.ld rfl (fun _ h => h) (by first  | rfl)) ?_
  refine RH.q hh (Calm.sq Calm.body) rfl (by kernel_rfl) (Qt.mv rfl) ?_
  refine RH.q hh (Calm.sq Calm.body) rfl (by kernel_rfl) (Qt.nil rfl) ?_
  refine RH.q hh (Calm.sq Calm.body) rfl (by kernel_rfl) (Qt.fld rfl) ?_
  refine RH.q hh (Calm.sq Calm.body) rfl (by kernel_rfl) (Qt.ld rfl (fun _ h => h) (by first  | rfl)) ?_
  refine RH.q hh (Calm.sq Calm.body) rfl (by kernel_rfl) (Qt.mv rfl) ?_
  refine RH.q hh (Calm.sq Calm.body) rfl (by kernel_rfl) (Qt.nil rfl) ?_
  refine RH.q hh (Calm.sq Calm.body) rfl (by kernel_rfl) (Qt.fld rfl) ?_
  refine RH.q hh (Calm.sq Calm.body) rfl (by kernel_rfl) (Qt.ld rfl (fun _ h => h) (by first  | rfl)) ?_
  refine RH.e hh rfl (by kernel_rfl) (Ef.call hS (phClone f n bl cap hn1 hn2) rfl rfl Try.call98 [1] [0, 2] (by decide) rfl rfl) ?_
  rintro v9 w ⟨ps, ⟨b', cap', rfl, rfl⟩, hS⟩
  refine ⟨(by exact hS.get 2 rfl), ?_⟩
  refine RH.q hh (Calm.sq Calm.body) rfl (by kernel_rfl) (Qt.bldV [.tmp 9, .tmp 13, .tmp 17] rfl rfl (by kernel_rfl)) ?_
  refine RH.e hh rfl (by kernel_rfl) (Ef.box hS rfl) ?_
  rintro _ w ⟨b19, rfl, hS⟩
  try simp (disch := omega) only [cells_agg'] at hS
  refine ⟨(by exact hS.get 3 rfl), ?_⟩
  refine RH.q hh (Calm.sq Calm.body) rfl (by kernel_rfl) (Qt.as rfl) ?_
  refine RH.done hh (by kernel_rfl) ?_
  refine RL.nil ?_
  refine RE.sqN ?_
  refine RC.ret ?_
  have hS := hO_shut hi hn1 hn2 (hS.pick [0, 1, 3, 2, 4] (by decide) rfl)
  have hS := hO_shut hi hn1 hn2 (hS.pick [1, 2, 0, 3] (by decide) rfl)
  exact RE.retB rfl ⟨⟨_, rfl⟩, rfl⟩ (hS.pick [1, 0, 2] (by decide) rfl)

def phZero : PH := ⟨fun _ => 0, fun _ => 0, fun _ => 0, fun _ => 0, fun _ => 0, fun _ => false⟩
theorem HI.new {n : Nat} (h : 1 ≤ n) : HI n [] phZero (-1) 0 .nil :=
  ⟨Tr.nil, by simp [BT.ids, pIds], by simp [pIds], List.Pairwise.nil, by simp, by simp, fun i _ _ => by simp [phZero, pIds], rfl, rfl, fun i _ _ => by simp only [phZero]; omega⟩

set_option maxHeartbeats 1000000 in
theorem phNew (n : Int) (h0 : 1 ≤ n) (h1 : n ≤ 1024) : Ct Try.prog 61 #[.int .i64 n] [] (fun v ps => (∃ b, v = .pointer (some ⟨b, 0, none⟩)) ∧ ps = [hO v n.toNat []]) := by
  refine Ct.enter Try.func61 rfl (Nat.le_of_ble_eq_true rfl) ?_
  intro oo w R hS
  change RC _ _ _ _ _ _ [(0, _)] _
  refine RC.seq ?_
  refine RC.region rfl ?_
  refine RL.q (Qt.as rfl) ?_
  refine RL.nil ?_
  refine RE.sqN ?_
  refine RC.seq ?_
  refine RC.seq ?_
  refine RC.region rfl ?_
  refine RL.q (Qt.mv rfl) ?_
  refine RL.q (Qt.lss rfl rfl) ?_
  refine RL.q (Qt.mv rfl) ?_
  refine RLG.start 5 false rfl ?_
  refine RLG.q rfl rfl rfl (fun _ => Qt.mv rfl) ?_
  refine RLG.q rfl rfl rfl (fun hg => by (try simp only [decide_eq_false_iff_not] at hg); exact Qt.gtr rfl rfl) ?_
  refine RLG.or rfl rfl ?_
  refine RL.nil ?_
  refine RE.sqN ?_
  refine RC.condF rfl (by simp; omega) ?_
  refine RC.skip ?_
  refine RE.sqN ?_
  refine RC.seq ?_
  refine RC.region rfl ?_
  refine RL.q (Qt.mv rfl) ?_
  refine RL.e (Ef.mks hS rfl (by omega) (by omega) (by decide)) ?_
  rintro _ w ⟨b10, rfl, hS⟩
  refine RL.q (Qt.bldV [.tmp 10, .const (Go.Value.int Go.IntKind.i64 (-1)), .const (Go.Value.int Go.IntKind.i64 0)] rfl rfl (by kernel_rfl)) ?_
  refine RL.e (Ef.box hS rfl) ?_
  rintro _ w ⟨b12, rfl, hS⟩
  try simp (disch := omega) only [cells_agg'] at hS
  refine RL.q (Qt.as rfl) ?_
  refine RL.nil ?_
  refine RE.sqN ?_
  refine RC.ret ?_
  have hS := hS.tabShut (row := prow phZero) 1 rfl (Tab.zero (z := #[.int .u64 0, .int .u64 0, .int .i64 0, .int .i64 0, .int .i64 0, .bool false]) (n := n.toNat) rfl (by decide) rfl)
  exact RE.retB rfl ⟨⟨_, rfl⟩, rfl⟩ (hO_shut (HI.new (by omega)) (by omega) (by omega) hS)
theorem phNewN (n : Int) (h : n < 1 ∨ n > 1024) : Ct Try.prog 61 #[.int .i64 n] [] (fun v ps => v = .pointer none ∧ ps = []) := by
  refine Ct.enter Try.func61 rfl (Nat.le_of_ble_eq_true rfl) ?_
  intro oo w R hS
  change RC _ _ _ _ _ _ [(0, _)] _
  refine RC.seq ?_
  refine RC.region rfl ?_
  refine RL.q (Qt.as rfl) ?_
  refine RL.nil ?_
  refine RE.sqN ?_
  refine RC.seq ?_
  refine RC.seq ?_
  refine RC.region rfl ?_
  refine RL.q (Qt.mv rfl) ?_
  refine RL.q (Qt.lss rfl rfl) ?_
  refine RL.q (Qt.mv rfl) ?_
  refine RLG.start 5 false rfl ?_
  refine RLG.q rfl rfl rfl (fun _ => Qt.mv rfl) ?_
  refine RLG.q rfl rfl rfl (fun hg => by (try simp only [decide_eq_false_iff_not] at hg); exact Qt.gtr rfl rfl) ?_
  refine RLG.or rfl rfl ?_
  refine RL.nil ?_
  refine RE.sqN ?_
  refine RC.condT rfl (by simp; omega) ?_
  refine RC.seq ?_
  refine RC.region rfl ?_
  refine RL.q (Qt.as rfl) ?_
  refine RL.nil ?_
  refine RE.sqN ?_
  refine RC.ret ?_
  refine RE.sqR ?_
  exact RE.retB rfl ⟨rfl, rfl⟩ hS

set_option maxHeartbeats 1000000 in
theorem phList (p : Value) (n : Nat) (l : List PItem) : Ct Try.prog 71 #[p] [hO p n l] (fun v ps => ps = [ownI v (pIds l), hO p n l]) := by
  refine Ct.enter Try.func71 rfl (Nat.le_of_ble_eq_true rfl) ?_
  intro oo w R hS
  change RC _ _ _ _ _ _ [(0, _)] _
  obtain ⟨hok, hn1, hn2⟩ := hO_pok hS
  have hlen := hok.lenLe
  refine RC.seq ?_
  refine RC.region rfl ?_
  refine RL.q (Qt.as rfl) ?_
  refine RL.nil ?_
  refine RE.sqN ?_
  refine RC.seq ?_
  refine RC.region rfl ?_
  refine RL.q (Qt.as rfl) ?_
  refine RL.nil ?_
  refine RE.sqN ?_
  refine RC.seq ?_
  refine RC.region rfl ?_
  refine RL.q (Qt.mv rfl) ?_
  refine RL.e (Ef.call hS (phFork p n l) rfl rfl Try.call80 [0] [1] (by decide) rfl rfl) ?_
  rintro v8 w ⟨ps, ⟨⟨bf, rfl⟩, rfl⟩, hS⟩
  refine RL.q (Qt.as rfl) ?_
  refine RL.nil ?_
  refine RE.sqN ?_
  refine RC.seq ?_
  refine RC.seq ?_
  refine RC.region rfl ?_
  refine RL.q (Qt.mv rfl) ?_
  refine RL.e (Ef.call hS (phTake _ n l) rfl rfl Try.call90 [0] [1, 2] (by decide) rfl rfl) ?_
  rintro v11 w ⟨ps, ⟨rfl, rfl⟩, hS⟩
  refine RL.q (Qt.mv rfl) ?_
  refine RL.q (Qt.ext rfl rfl) ?_
  refine RL.q (Qt.ext rfl rfl) ?_
  refine RL.q (Qt.as rfl) ?_
  refine RL.q (Qt.as rfl) ?_
  refine RL.nil ?_
  refine RE.sqN ?_
  refine RC.block ?_
  have hS := hS.nilOwn (T := 3) (sz := 1)
  refine RC.loop (γ := Nat × Value) (fun g E w' => E = [(6, .bool (pMinOk (l.drop g.1))), (5, .int .i64 (pMinId (l.drop g.1))), (4, .pointer (some ⟨bf, 0, none⟩)), (3, g.2)] ∧ g.1 ≤ l.length ∧ Sat oo w' [ownI g.2 (pIds (l.take g.1)), hO (.pointer (some ⟨bf, 0, none⟩)) n (l.drop g.1).tail, hO p n l, R]) (fun g => l.length - g.1) (0, .slice none 0 0) _ (by (repeat (first | exact Sub.nil | refine Sub.cons rfl ?_))) ⟨rfl, by simp, hS⟩ ?_
  clear hS
  rintro ⟨k, v⟩ E w ⟨rfl, hk, hS⟩
  dsimp only at hk hS
  refine RC.seq ?_
  refine RC.seq ?_
  refine RC.region rfl ?_
  refine RL.q (Qt.mv rfl) ?_
  refine RL.nil ?_
  refine RE.sqN ?_
  refine RC.cond rfl (fun h => ?_) (fun h => ?_)
  · skip
    have hlt : k < l.length := by
      rcases Nat.lt_or_ge k l.length with h1 | h1
      · exact h1
      · rw [List.drop_of_length_le h1] at h; cases h
    have hd : l.drop k = l[k] :: l.drop (k + 1) := List.drop_eq_getElem_cons hlt
    have htk : pIds (l.take (k + 1)) = pIds (l.take k) ++ [l[k].id] := by rw [pIds, List.take_succ_eq_append_getElem hlt, List.map_append]; rfl
    have hkl : (pIds (l.take k)).length = k := by simp [pIds]; omega
    obtain ⟨sp, cap, rfl⟩ := hS.ownForm 0 rfl
    rw [hd] at hS ⊢
    refine RC.skip ?_
    refine RE.sqN ?_
    refine RC.seq ?_
    refine RC.block ?_
    refine RC.region rfl ?_
    refine RL.q (Qt.mv rfl) ?_
    refine RL.q (Qt.mv rfl) ?_
    refine RL.e (Ef.bsl1 hS rfl) ?_
    rintro _ w ⟨b22, rfl, hS⟩
    try simp (disch := omega) only [cells_int'] at hS
    refine RL.e (Ef.app (k := 1) hS rfl rfl rfl (Src.pt (hS.get 0 rfl) (by exact Nat.le_of_ble_eq_true rfl)) (by omega) (by rfl)) ?_
    intro s23 w hS
    simp only [List.set_cons_zero, List.set_cons_succ, List.drop_zero] at hS
    (obtain ⟨sp23, cp23, rfl⟩ := hS.ownForm 1 rfl)
    refine RL.q (Qt.as rfl) ?_
    refine RL.nil ?_
    refine RE.bkN ?_
    refine RE.sqN ?_
    refine RC.region rfl ?_
    refine RL.q (Qt.mv rfl) ?_
    refine RL.e (Ef.call hS (phTake _ n (l.drop (k + 1))) rfl rfl Try.call90 [2] [0, 1, 3, 4] (by decide) rfl rfl) ?_
    rintro v17 w ⟨ps, ⟨rfl, rfl⟩, hS⟩
    refine RL.q (Qt.mv rfl) ?_
    refine RL.q (Qt.ext rfl rfl) ?_
    refine RL.q (Qt.ext rfl rfl) ?_
    refine RL.q (Qt.as rfl) ?_
    refine RL.q (Qt.as rfl) ?_
    refine RL.nil ?_
    apply RE.lpN ((k + 1, .slice sp23 ((pIds (l.take k)).length + 1) cp23))
    case hI =>
      refine ⟨rfl, hlt, ?_⟩
      dsimp only
      unfold ownI
      rw [htk, List.length_append, List.length_singleton, ints, List.map_append]
      exact hS.pick [2, 0, 3, 4] (by decide) rfl
    case hs => (repeat (first | exact Sub.nil | refine Sub.cons rfl ?_))
    case hm =>
      show l.length - (k + 1) < l.length - k
      omega
  · refine RC.exit ?_
    refine RE.sqX ?_
    refine RE.lpX ?_
    refine RE.bkX ?_
    refine RE.sqN ?_
    refine RC.seq ?_
    refine RC.region rfl ?_
    refine RL.q (Qt.mv rfl) ?_
    refine RL.q (Qt.as rfl) ?_
    refine RL.nil ?_
    refine RE.sqN ?_
    refine RC.ret ?_
    have hge : l.length ≤ k := by
      rcases Nat.lt_or_ge k l.length with h1 | h1
      · rw [List.drop_eq_getElem_cons h1] at h; cases h
      · exact h1
    rw [List.take_of_length_le hge] at hS
    exact RE.retB rfl rfl (hS.pick [0, 2, 3] (by decide) rfl)
end Go.Proofs

/- What is ready: the set of layer 10 itself: how it lies, Key, may, Len, put, out. -/
namespace Go.Proofs
open Go Go.Gx
variable {oo : World}

def sO (p : Value) (n : Nat) (most B : Int) (l : List KItem) : HP := fun F => ∃ x : (List RItem × List PItem × Int) × (Nat × Value × Value), (p = .pointer (some ⟨x.2.1, 0, none⟩) ∧ RdI n l x.1.1 x.1.2.1 x.1.2.2 ∧ 0 ≤ x.1.2.2 ∧ x.1.2.2 ≤ B) ∧
  Star [pt x.2.1 (.cells #[x.2.2.1, x.2.2.2, .int .i64 n, .int .i64 most, .int .u64 x.1.2.2] 97 (0, 0)), qO x.2.2.1 n x.1.1, hO x.2.2.2 n x.1.2.1] F
theorem qO_fact {F : Frag} {p : Value} {n : Nat} {l : List RItem} (h : qO p n l F) : (∃ b, p = .pointer (some ⟨b, 0, none⟩)) ∧ (l.map RItem.id).Nodup := by
  obtain ⟨x, ⟨h1, h2⟩, _⟩ := h
  exact ⟨⟨_, h1⟩, h2.ri.nodup⟩
theorem hO_fact {F : Frag} {p : Value} {n : Nat} {l : List PItem} (h : hO p n l F) : (∃ b, p = .pointer (some ⟨b, 0, none⟩)) ∧ (pIds l).Nodup ∧ n ≤ 1024 := by
  obtain ⟨x, ⟨h1, h2, _, h3⟩, _⟩ := h
  exact ⟨⟨_, h1⟩, h2.pok.nodup, h3⟩
theorem sO_open {w : World} {L : List HP} {p : Value} {n : Nat} {most B : Int} {l : List KItem} (h : Sat oo w (sO p n most B l :: L)) :
    ∃ lq lh seq b bq bh, p = .pointer (some ⟨b, 0, none⟩) ∧ RdI n l lq lh seq ∧ 0 ≤ seq ∧ seq ≤ B ∧ (lq.map RItem.id).Nodup ∧ (pIds lh).Nodup ∧ n ≤ 1024 ∧
      Sat oo w (pt b (.cells #[.pointer (some ⟨bq, 0, none⟩), .pointer (some ⟨bh, 0, none⟩), .int .i64 n, .int .i64 most, .int .u64 seq] 97 (0, 0)) :: qO (.pointer (some ⟨bq, 0, none⟩)) n lq :: hO (.pointer (some ⟨bh, 0, none⟩)) n lh :: L) := by
  obtain ⟨⟨⟨lq, lh, seq⟩, b, pq, ph⟩, h⟩ := h.ex (α := (List RItem × List PItem × Int) × (Nat × Value × Value)) 0 rfl (q := fun x F => (p = .pointer (some ⟨x.2.1, 0, none⟩) ∧ RdI n l x.1.1 x.1.2.1 x.1.2.2 ∧ 0 ≤ x.1.2.2 ∧ x.1.2.2 ≤ B) ∧
    Star [pt x.2.1 (.cells #[x.2.2.1, x.2.2.2, .int .i64 n, .int .i64 most, .int .u64 x.1.2.2] 97 (0, 0)), qO x.2.2.1 n x.1.1, hO x.2.2.2 n x.1.2.1] F) (fun F ⟨x, h⟩ => ⟨x, h⟩)
  obtain ⟨h1, h2, h3, h4⟩ := h.fact 0 rfl (fun F hF => hF.1)
  have h5 := (h.imp 0 rfl (fun F hF => hF.2)).unstar
  obtain ⟨⟨bq, e1⟩, g1⟩ := h5.fact 1 rfl (fun F hF => qO_fact hF)
  obtain ⟨⟨bh, e2⟩, g2, g3⟩ := h5.fact 2 rfl (fun F hF => hO_fact hF)
  dsimp only at e1 e2
  subst e1 e2
  exact ⟨lq, lh, seq, b, bq, bh, h1, h2, h3, h4, g1, g2, g3, h5⟩
theorem sO_shut {w : World} {L : List HP} {b : Nat} {pq ph : Value} {n : Nat} {most B seq : Int} {l : List KItem} {lq : List RItem} {lh : List PItem} (hI : RdI n l lq lh seq) (h0 : 0 ≤ seq) (h1 : seq ≤ B)
    (h : Sat oo w (pt b (.cells #[pq, ph, .int .i64 n, .int .i64 most, .int .u64 seq] 97 (0, 0)) :: qO pq n lq :: hO ph n lh :: L)) : Sat oo w (sO (.pointer (some ⟨b, 0, none⟩)) n most B l :: L) := by
  have h1 := Sat.star (B := [pt b (.cells #[pq, ph, .int .i64 n, .int .i64 most, .int .u64 seq] 97 (0, 0)), qO pq n lq, hO ph n lh]) (L := L) h
  exact h1.imp 0 rfl (fun F hF => ⟨⟨⟨lq, lh, seq⟩, b, pq, ph⟩, ⟨rfl, hI, h0, by assumption⟩, hF⟩)
theorem sO_mono {w : World} {L : List HP} {p : Value} {n : Nat} {most B B' : Int} {l : List KItem} (hB : B ≤ B') (h : Sat oo w (sO p n most B l :: L)) : Sat oo w (sO p n most B' l :: L) := by
  obtain ⟨lq, lh, seq, b, bq, bh, rfl, hI, h0, h1, _, _, _, hS⟩ := sO_open h
  exact sO_shut hI h0 (Int.le_trans h1 hB) hS
theorem sO_ok {w : World} {L : List HP} {p : Value} {n : Nat} {most B : Int} {l : List KItem} (h : Sat oo w (sO p n most B l :: L)) : KOk n l ∧ n ≤ 1024 := by
  obtain ⟨lq, lh, seq, b, bq, bh, rfl, hI, h0, h1, _, _, hn, hS⟩ := sO_open h
  exact ⟨hI.ok, hn⟩
theorem bqLevelR (p : Value) (n : Nat) (l : List RItem) (id : Int) : Ct Try.prog 94 #[p, .int .i64 id] [qO p n l] (fun v ps => v = .tuple #[.int .u8 (levLv l id), .bool (decide (0 ≤ rat l id))] ∧ ps = [qO p n l]) := by
  rw [← rLevel_eq]; exact bqLevel p n l id
theorem bqTopR (p : Value) (n : Nat) (l : List RItem) : Ct Try.prog 69 #[p] [qO p n l] (fun v ps => v = .tuple #[.int .u8 (topLv l), .int .i64 (topId l), .bool (topOk l)] ∧ ps = [qO p n l]) := by
  rw [← rTop_eq]; exact bqTop p n l

set_option maxHeartbeats 2000000 in
theorem rdKey (p : Value) (n : Nat) (most B : Int) (l : List KItem) (id : Int) : Ct Try.prog 77 #[p, .int .i64 id] [sO p n most B l] (fun v ps => v = .tuple #[.agg (kGetK l id).cells.toArray, .bool (kGetOk l id)] ∧ ps = [sO p n most B l]) := by
  refine Ct.enter Try.func77 rfl (Nat.le_of_ble_eq_true rfl) ?_
  intro oo w R hS
  change RC _ _ _ _ _ _ [(0, _), (1, _)] _
  obtain ⟨lq, lh, seq, b, bq, bh, rfl, hI, hs0, hs1, hqn, hhn, hn, hS⟩ := sO_open hS
  refine RC.seq ?_
  refine RC.region rfl ?_
  refine RL.e (Ef.alloc hS) ?_
  rintro _ w ⟨b4, rfl, hS⟩
  try simp (disch := omega) only [cells_agg'] at hS
  refine RL.q (Qt.as rfl) ?_
  refine RL.nil ?_
  refine RE.sqN ?_
  refine RC.seq ?_
  refine RC.seq ?_
  refine RC.region rfl ?_
  refine RL.q (Qt.mv rfl) ?_
  refine RL.q (Qt.eqlN rfl rfl) ?_
  refine RL.nil ?_
  refine RE.sqN ?_
  refine RC.condF rfl (rfl) ?_
  refine RC.skip ?_
  refine RE.sqN ?_
  refine RC.seq ?_
  refine RC.seq ?_
  refine RC.region rfl ?_
  refine RL.q (Qt.mv rfl) ?_
  refine RL.q (Qt.nil rfl) ?_
  refine RL.q (Qt.fld rfl) ?_
  refine RL.q (Qt.fld rfl) ?_
  refine RL.q (Qt.ld rfl (by exact hS.at 1 rfl) (by first  | rfl)) ?_
  refine RL.q (Qt.mv rfl) ?_
  refine RL.e (Ef.call hS (phGet _ n lh id) rfl rfl Try.call68 [3] [0, 1, 2, 4] (by decide) rfl rfl) ?_
  rintro v21 w ⟨ps, ⟨rfl, rfl⟩, hS⟩
  refine RL.q (Qt.mv rfl) ?_
  refine RL.q (Qt.ext rfl rfl) ?_
  refine RL.q (Qt.ext rfl rfl) ?_
  refine RL.q (Qt.ext rfl rfl) ?_
  refine RL.q (Qt.as rfl) ?_
  refine RL.q (Qt.as rfl) ?_
  refine RL.q (Qt.as rfl) ?_
  refine RL.nil ?_
  refine RE.sqN ?_
  refine RC.seq ?_
  refine RC.region rfl ?_
  refine RL.q (Qt.mv rfl) ?_
  refine RL.nil ?_
  refine RE.sqN ?_
  refine RC.cond rfl (fun h => ?_) (fun h => ?_)
  · skip
    have h : id ∈ pIds lh := of_decide_eq_true h
    have hk := hI.getH h hhn
    rw [hk.1, hk.2]
    refine RC.seq ?_
    refine RC.region rfl ?_
    refine RL.q (Qt.mv rfl) ?_
    refine RL.e (Ef.call hS (kyDead _) rfl rfl Try.call17 [] [0, 1, 2, 3, 4] (by decide) rfl rfl) ?_
    rintro v27 w ⟨ps, ⟨rfl, rfl⟩, hS⟩
    try rw [List.nil_append] at hS
    refine RL.e0 (Ef.st hS 1 rfl rfl rfl (by rfl) (by rfl) (by exact Nat.le_of_ble_eq_true rfl)) ?_
    intro _ w hS
    simp (disch := omega) only [List.set_cons_zero, List.set_cons_succ, cells_agg'] at hS
    refine RL.q (Qt.as rfl) ?_
    refine RL.nil ?_
    refine RE.sqN ?_
    refine RC.ret ?_
    refine RE.sqR ?_
    exact RE.retW (vs := [.agg (kDead (pGetD lh id)).cells.toArray, .bool true]) (by repeat (first | exact ResW.nil | refine ResW.tmp rfl ?_ | refine ResW.cell (by infer_instance) rfl rfl (by exact hS.get 1 rfl) rfl (Nat.le_of_ble_eq_true rfl) ?_)) ⟨rfl, rfl⟩ (sO_shut hI hs0 hs1 (hS.pick [2, 3, 0, 4] (by decide) rfl))
  · skip
    have h : id ∉ pIds lh := of_decide_eq_false h
    refine RC.skip ?_
    refine RE.sqN ?_
    refine RC.seq ?_
    refine RC.seq ?_
    refine RC.region rfl ?_
    refine RL.q (Qt.mv rfl) ?_
    refine RL.q (Qt.nil rfl) ?_
    refine RL.q (Qt.fld rfl) ?_
    refine RL.q (Qt.fld rfl) ?_
    refine RL.q (Qt.ld rfl (by exact hS.at 2 rfl) (by first  | rfl)) ?_
    refine RL.q (Qt.mv rfl) ?_
    refine RL.e (Ef.call hS (bqLevelR _ n lq id) rfl rfl Try.call94 [3] [0, 1, 2, 4] (by decide) rfl rfl) ?_
    rintro v35 w ⟨ps, ⟨rfl, rfl⟩, hS⟩
    refine RL.q (Qt.mv rfl) ?_
    refine RL.q (Qt.ext rfl rfl) ?_
    refine RL.q (Qt.ext rfl rfl) ?_
    refine RL.q (Qt.as rfl) ?_
    refine RL.q (Qt.as rfl) ?_
    refine RL.nil ?_
    refine RE.sqN ?_
    refine RC.seq ?_
    refine RC.region rfl ?_
    refine RL.q (Qt.mv rfl) ?_
    refine RL.nil ?_
    refine RE.sqN ?_
    refine RC.cond rfl (fun h2 => ?_) (fun h2 => ?_)
    · skip
      have h2 : id ∈ lq.map RItem.id := rat_mem.1 (of_decide_eq_true h2)
      have hk := hI.getQ h2 hqn
      rw [hk.1, hk.2]
      refine RC.seq ?_
      refine RC.region rfl ?_
      refine RL.q (Qt.mv rfl) ?_
      refine RL.e (Ef.call hS (kyFixed _) rfl rfl Try.call16 [] [0, 1, 2, 3, 4] (by decide) rfl rfl) ?_
      rintro v40 w ⟨ps, ⟨rfl, rfl⟩, hS⟩
      try rw [List.nil_append] at hS
      refine RL.e0 (Ef.st hS 2 rfl rfl rfl (by rfl) (by rfl) (by exact Nat.le_of_ble_eq_true rfl)) ?_
      intro _ w hS
      simp (disch := omega) only [List.set_cons_zero, List.set_cons_succ, cells_agg'] at hS
      refine RL.q (Qt.as rfl) ?_
      refine RL.nil ?_
      refine RE.sqN ?_
      refine RC.ret ?_
      refine RE.sqR ?_
      exact RE.retW (vs := [.agg (kFixed (levLv lq id)).cells.toArray, .bool true]) (by repeat (first | exact ResW.nil | refine ResW.tmp rfl ?_ | refine ResW.cell (by infer_instance) rfl rfl (by exact hS.get 2 rfl) rfl (Nat.le_of_ble_eq_true rfl) ?_)) ⟨rfl, rfl⟩ (sO_shut hI hs0 hs1 (hS.pick [3, 0, 1, 4] (by decide) rfl))
    · refine RC.skip ?_
      refine RE.sqN ?_
      refine RC.seq ?_
      refine RC.region rfl ?_
      refine RL.q (Qt.bldV [.const (Go.Value.bool false), .const (Go.Value.int Go.IntKind.u64 0), .const (Go.Value.int Go.IntKind.u8 0)] rfl rfl (by kernel_rfl)) ?_
      refine RL.e0 (Ef.st hS 2 rfl rfl rfl (by rfl) (by rfl) (by exact Nat.le_of_ble_eq_true rfl)) ?_
      intro _ w hS
      simp (disch := omega) only [List.set_cons_zero, List.set_cons_succ, cells_agg', Nat.zero_add, wr, List.setIfInBounds_toArray] at hS
      refine RL.q (Qt.as rfl) ?_
      refine RL.nil ?_
      refine RE.sqN ?_
      refine RC.ret ?_
      have h2 : id ∉ lq.map RItem.id := fun e => of_decide_eq_false h2 (rat_mem.2 e)
      have hk := kGetK_none (l := l) (id := id) (fun e => (hI.mem.1 e).elim h h2)
      rw [hk.1, hk.2]
      exact RE.retW (vs := [.agg KKey.none.cells.toArray, .bool false]) (by repeat (first | exact ResW.nil | refine ResW.tmp rfl ?_ | refine ResW.cell (by infer_instance) rfl rfl (by exact hS.get 2 rfl) rfl (Nat.le_of_ble_eq_true rfl) ?_)) ⟨rfl, rfl⟩ (sO_shut hI hs0 hs1 (hS.pick [3, 0, 1, 4] (by decide) rfl))

set_option maxHeartbeats 2000000 in
theorem rdMay (p : Value) (n : Nat) (most B : Int) (l : List KItem) (id : Int) (r t : Bool) : Ct Try.prog 64 #[p, .int .i64 id, .bool r, .bool t] [sO p n most B l] (fun v ps => v = .int .i64 (kErr l n id r t) ∧ ps = [sO p n most B l]) := by
  refine Ct.enter Try.func64 rfl (Nat.le_of_ble_eq_true rfl) ?_
  intro oo w R hS
  change RC _ _ _ _ _ _ [(0, _), (1, _), (2, _), (3, _)] _
  obtain ⟨lq, lh, seq, b, bq, bh, rfl, hI, hs0, hs1, hqn, hhn, hn, hS⟩ := sO_open hS
  refine RC.seq ?_
  refine RC.region rfl ?_
  refine RL.q (Qt.as rfl) ?_
  refine RL.nil ?_
  refine RE.sqN ?_
  refine RC.seq ?_
  refine RC.block ?_
  refine RC.seq ?_
  refine RC.region rfl ?_
  refine RL.q (Qt.mv rfl) ?_
  refine RL.q (Qt.eqlN rfl rfl) ?_
  refine RL.q (Qt.as rfl) ?_
  refine RL.nil ?_
  refine RE.sqN ?_
  refine RC.condF rfl (rfl) ?_
  refine RC.seq ?_
  refine RC.region rfl ?_
  refine RL.q (Qt.mv rfl) ?_
  refine RL.q (Qt.lss rfl rfl) ?_
  refine RL.q (Qt.mv rfl) ?_
  refine RLG.start 17 false rfl ?_
  refine RLG.q rfl rfl rfl (fun _ => Qt.mv rfl) ?_
  refine RLG.q rfl rfl rfl (fun _ => Qt.mv rfl) ?_
  refine RLG.q rfl rfl rfl (fun _ => Qt.nil rfl) ?_
  refine RLG.q rfl rfl rfl (fun _ => Qt.fld rfl) ?_
  refine RLG.q rfl rfl rfl (fun hg => by (try simp only [decide_eq_false_iff_not] at hg); exact Qt.ld rfl (by exact hS.at 0 rfl) (by first  | rfl)) ?_
  refine RLG.q rfl rfl rfl (fun hg => by (try simp only [decide_eq_false_iff_not] at hg); exact Qt.geq rfl rfl) ?_
  refine RLG.or rfl rfl ?_
  refine RL.q (Qt.mv rfl) ?_
  refine RLG.start 25 false rfl ?_
  refine RLG.q rfl rfl rfl (fun _ => Qt.mv rfl) ?_
  refine RLG.q rfl rfl rfl (fun _ => Qt.not rfl) ?_
  refine RLG.or rfl rfl ?_
  refine RL.q (Qt.as rfl) ?_
  refine RL.nil ?_
  refine RE.sqN ?_
  have hS := sO_shut hI hs0 hs1 hS
  refine RC.cond rfl (fun h => ?_) (fun h => ?_)
  · refine RC.seq ?_
    refine RC.region rfl ?_
    refine RL.q (Qt.as rfl) ?_
    refine RL.nil ?_
    refine RE.sqN ?_
    refine RC.ret ?_
    refine RE.bkR ?_
    refine RE.sqR ?_
    have h : id < 0 ∨ id ≥ n ∨ r = false := by simpa [or_assoc] using h
    exact RE.retB rfl ⟨by rw [kErr_range h]; rfl, rfl⟩ hS
  · skip
    have h : ¬ (id < 0 ∨ id ≥ n ∨ r = false) := by
      simp at h ⊢
      exact ⟨h.1.1, h.1.2, h.2⟩
    refine RC.skip ?_
    refine RE.bkN ?_
    refine RE.sqN ?_
    refine RC.seq ?_
    refine RC.region rfl ?_
    refine RL.q (Qt.mv rfl) ?_
    refine RL.q (Qt.mv rfl) ?_
    refine RL.e (Ef.call hS (rdKey _ n most B l id) rfl rfl Try.call77 [0] [1] (by decide) rfl rfl) ?_
    rintro v32 w ⟨ps, ⟨rfl, rfl⟩, hS⟩
    refine RL.q (Qt.mv rfl) ?_
    refine RL.q (Qt.ext rfl rfl) ?_
    refine RL.q (Qt.ext rfl rfl) ?_
    refine RL.e (Ef.alloc hS) ?_
    rintro _ w ⟨b9, rfl, hS⟩
    try simp (disch := omega) only [cells_agg'] at hS
    refine RL.e0 (Ef.st hS 0 rfl rfl rfl (by rfl) (by rfl) (by exact Nat.le_of_ble_eq_true rfl)) ?_
    intro _ w hS
    simp (disch := omega) only [List.set_cons_zero, cells_agg'] at hS
    refine RL.q (Qt.as rfl) ?_
    refine RL.nil ?_
    refine RE.sqN ?_
    refine RC.seq ?_
    refine RC.block ?_
    refine RC.seq ?_
    refine RC.region rfl ?_
    refine RL.q (Qt.mv rfl) ?_
    refine RL.q (Qt.mv rfl) ?_
    refine RLG.start 37 true rfl ?_
    refine RLG.q rfl rfl rfl (fun _ => Qt.mv rfl) ?_
    refine RLG.q rfl rfl rfl (fun _ => Qt.not rfl) ?_
    refine RLG.and rfl rfl ?_
    refine RL.q (Qt.as rfl) ?_
    refine RL.nil ?_
    refine RE.sqN ?_
    refine RC.cond rfl (fun h2 => ?_) (fun h2 => ?_)
    · refine RC.seq ?_
      refine RC.region rfl ?_
      refine RL.q (Qt.as rfl) ?_
      refine RL.nil ?_
      refine RE.sqN ?_
      refine RC.ret ?_
      refine RE.bkR ?_
      refine RE.sqR ?_
      have h2 : t = true ∧ id ∉ kIds l := by simpa [kGetOk] using h2
      obtain ⟨ht, h5⟩ := h2
      subst ht
      exact RE.retB rfl ⟨by rw [kErr_none h h5]; rfl, rfl⟩ (hS.pick [1, 2] (by decide) rfl)
    · skip
      refine RC.seq ?_
      refine RC.region rfl ?_
      refine RL.q (Qt.mv rfl) ?_
      refine RL.q (Qt.not rfl) ?_
      refine RL.q (Qt.mv rfl) ?_
      refine RLG.start 44 true rfl ?_
      refine RLG.q rfl rfl rfl (fun _ => Qt.mv rfl) ?_
      refine RLG.and rfl rfl ?_
      refine RL.q (Qt.as rfl) ?_
      refine RL.nil ?_
      refine RE.sqN ?_
      refine RC.cond rfl (fun h3 => ?_) (fun h3 => ?_)
      · refine RC.seq ?_
        refine RC.region rfl ?_
        refine RL.q (Qt.as rfl) ?_
        refine RL.nil ?_
        refine RE.sqN ?_
        refine RC.ret ?_
        refine RE.bkR ?_
        refine RE.sqR ?_
        have h3 : t = false ∧ id ∈ kIds l := by simpa [kGetOk] using h3
        obtain ⟨ht, h5⟩ := h3
        subst ht
        exact RE.retB rfl ⟨by rw [kErr_known h h5]; rfl, rfl⟩ (hS.pick [1, 2] (by decide) rfl)
      · refine RC.skip ?_
        refine RE.bkN ?_
        refine RE.sqN ?_
        refine RC.seq ?_
        refine RC.region rfl ?_
        refine RL.q (Qt.as rfl) ?_
        refine RL.nil ?_
        refine RE.sqN ?_
        refine RC.ret ?_
        have h2 : t = true → id ∈ kIds l := by simpa [kGetOk] using h2
        have h3 : t = false → id ∉ kIds l := by simpa [kGetOk] using h3
        have he : kErr l n id r t = 0 := by
          cases t with
          | true => exact kErr_ok1 h (h2 rfl)
          | false => exact kErr_ok0 h (h3 rfl)
        exact RE.retB rfl ⟨by rw [he]; rfl, rfl⟩ (hS.pick [1, 2] (by decide) rfl)
end Go.Proofs

/- The set of layer 10 itself: Len, put, out, Put, Change, Remove. -/
namespace Go.Proofs
open Go Go.Gx
variable {oo : World}

set_option maxHeartbeats 2000000 in
theorem rdLen0 (b bq bh n : Nat) (most seq : Int) (l : List KItem) (lq : List RItem) (lh : List PItem) (hI : RdI n l lq lh seq) (hn : n ≤ 1024) : Ct Try.prog 40 #[.pointer (some ⟨b, 0, none⟩)] [pt b (.cells #[.pointer (some ⟨bq, 0, none⟩), .pointer (some ⟨bh, 0, none⟩), .int .i64 n, .int .i64 most, .int .u64 seq] 97 (0, 0)), qO (.pointer (some ⟨bq, 0, none⟩)) n lq, hO (.pointer (some ⟨bh, 0, none⟩)) n lh]
    (fun v ps => v = .int .i64 l.length ∧ ps = [pt b (.cells #[.pointer (some ⟨bq, 0, none⟩), .pointer (some ⟨bh, 0, none⟩), .int .i64 n, .int .i64 most, .int .u64 seq] 97 (0, 0)), qO (.pointer (some ⟨bq, 0, none⟩)) n lq, hO (.pointer (some ⟨bh, 0, none⟩)) n lh]) := by
  refine Ct.enter Try.func40 rfl (Nat.le_of_ble_eq_true rfl) ?_
  intro oo w R hS
  change RC _ _ _ _ _ _ [(0, _)] _
  have hlen := hI.len
  have hle := hI.ok.lenLe
  refine RC.seq ?_
  refine RC.region rfl ?_
  refine RL.q (Qt.as rfl) ?_
  refine RL.nil ?_
  refine RE.sqN ?_
  refine RC.seq ?_
  refine RC.seq ?_
  refine RC.region rfl ?_
  refine RL.q (Qt.mv rfl) ?_
  refine RL.q (Qt.eqlN rfl rfl) ?_
  refine RL.nil ?_
  refine RE.sqN ?_
  refine RC.condF rfl (rfl) ?_
  refine RC.skip ?_
  refine RE.sqN ?_
  refine RC.seq ?_
  refine RC.drawn 14 [0, 1, 2, 3, 4, 6, 7, 8, 9, 10, 5, 11, 12, 13] (fun w' => w'.heap[b]? = some (.cells #[.pointer (some ⟨bq, 0, none⟩), .pointer (some ⟨bh, 0, none⟩), .int .i64 n, .int .i64 most, .int .u64 seq] 97 (0, 0))) (by kernel_rfl) (by kernel_rfl) ((by exact hS.drew.get 0 rfl)) (fun hh => ?_)
  replace hS := hS.drew
  refine RH.q hh (Calm.sq Calm.body) rfl (by kernel_rfl) (Qt.mv rfl) ?_
  refine RH.q hh (Calm.sq Calm.body) rfl (by kernel_rfl) (Qt.nil rfl) ?_
  refine RH.q hh (Calm.sq Calm.body) rfl (by kernel_rfl) (Qt.fld rfl) ?_
  refine RH.q hh (Calm.sq Calm.body) rfl (by kernel_rfl) (Qt.fld rfl) ?_
  refine RH.q hh (Calm.sq Calm.body) rfl (by kernel_rfl) (Qt.ld rfl (fun _ h => h) (by first  | rfl)) ?_
  refine RH.q hh (Calm.sq Calm.body) rfl (by kernel_rfl) (Qt.mv rfl) ?_
  refine RH.q hh (Calm.sq Calm.body) rfl (by kernel_rfl) (Qt.nil rfl) ?_
  refine RH.q hh (Calm.sq Calm.body) rfl (by kernel_rfl) (Qt.fld rfl) ?_
  refine RH.q hh (Calm.sq Calm.body) rfl (by kernel_rfl) (Qt.fld rfl) ?_
  refine RH.q hh (Calm.sq Calm.body) rfl (by kernel_rfl) (Qt.ld rfl (fun _ h => h) (by first  | rfl)) ?_
  refine RH.e hh rfl (by kernel_rfl) (Ef.call hS (bqLen _ n lq) rfl rfl Try.call62 [1] [0, 2, 3] (by decide) rfl rfl) ?_
  rintro v10 w ⟨ps, ⟨rfl, rfl⟩, hS⟩
  refine ⟨(by exact hS.get 1 rfl), ?_⟩
  refine RH.e hh rfl (by kernel_rfl) (Ef.call hS (phLen _ n lh) rfl rfl Try.call63 [2] [0, 1, 3] (by decide) rfl rfl) ?_
  rintro v16 w ⟨ps, ⟨rfl, rfl⟩, hS⟩
  refine ⟨(by exact hS.get 2 rfl), ?_⟩
  refine RH.q hh (Calm.sq Calm.body) rfl (by kernel_rfl) ((by exact Qt.addI rfl rfl (by dsimp only [inK]; omega))) ?_
  refine RH.q hh (Calm.sq Calm.body) rfl (by kernel_rfl) (Qt.as rfl) ?_
  refine RH.done hh (by kernel_rfl) ?_
  refine RL.nil ?_
  refine RE.sqN ?_
  refine RC.ret ?_
  refine RE.retB rfl ⟨?_, rfl⟩ (hS.pick [2, 1, 0, 3] (by decide) rfl)
  simp only [oneOf, Value.int.injEq, true_and]
  omega

set_option maxHeartbeats 2000000 in
theorem rdLen (p : Value) (n : Nat) (most B : Int) (l : List KItem) : Ct Try.prog 40 #[p] [sO p n most B l] (fun v ps => v = .int .i64 l.length ∧ ps = [sO p n most B l]) := by
  refine Ct.enter Try.func40 rfl (Nat.le_of_ble_eq_true rfl) ?_
  intro oo w R hS
  change RC _ _ _ _ _ _ [(0, _)] _
  obtain ⟨lq, lh, seq, b, bq, bh, rfl, hI, hs0, hs1, hqn, hhn, hn, hS⟩ := sO_open hS
  have hlen := hI.len
  have hle := hI.ok.lenLe
  refine RC.seq ?_
  refine RC.region rfl ?_
  refine RL.q (Qt.as rfl) ?_
  refine RL.nil ?_
  refine RE.sqN ?_
  refine RC.seq ?_
  refine RC.seq ?_
  refine RC.region rfl ?_
  refine RL.q (Qt.mv rfl) ?_
  refine RL.q (Qt.eqlN rfl rfl) ?_
  refine RL.nil ?_
  refine RE.sqN ?_
  refine RC.condF rfl (rfl) ?_
  refine RC.skip ?_
  refine RE.sqN ?_
  refine RC.seq ?_
  refine RC.drawn 14 [0, 1, 2, 3, 4, 6, 7, 8, 9, 10, 5, 11, 12, 13] (fun w' => w'.heap[b]? = some (.cells #[.pointer (some ⟨bq, 0, none⟩), .pointer (some ⟨bh, 0, none⟩), .int .i64 n, .int .i64 most, .int .u64 seq] 97 (0, 0))) (by kernel_rfl) (by kernel_rfl) ((by exact hS.drew.get 0 rfl)) (fun hh => ?_)
  replace hS := hS.drew
  refine RH.q hh (Calm.sq Calm.body) rfl (by kernel_rfl) (Qt.mv rfl) ?_
  refine RH.q hh (Calm.sq Calm.body) rfl (by kernel_rfl) (Qt.nil rfl) ?_
  refine RH.q hh (Calm.sq Calm.body) rfl (by kernel_rfl) (Qt.fld rfl) ?_
  refine RH.q hh (Calm.sq Calm.body) rfl (by kernel_rfl) (Qt.fld rfl) ?_
  refine RH.q hh (Calm.sq Calm.body) rfl (by kernel_rfl) (Qt.ld rfl (fun _ h => h) (by first  | rfl)) ?_
  refine RH.q hh (Calm.sq Calm.body) rfl (by kernel_rfl) (Qt.mv rfl) ?_
  refine RH.q hh (Calm.sq Calm.body) rfl (by kernel_rfl) (Qt.nil rfl) ?_
  refine RH.q hh (Calm.sq Calm.body) rfl (by kernel_rfl) (Qt.fld rfl) ?_
  refine RH.q hh (Calm.sq Calm.body) rfl (by kernel_rfl) (Qt.fld rfl) ?_
  refine RH.q hh (Calm.sq Calm.body) rfl (by kernel_rfl) (Qt.ld rfl (fun _ h => h) (by first  | rfl)) ?_
  refine RH.e hh rfl (by kernel_rfl) (Ef.call hS (bqLen _ n lq) rfl rfl Try.call62 [1] [0, 2, 3] (by decide) rfl rfl) ?_
  rintro v10 w ⟨ps, ⟨rfl, rfl⟩, hS⟩
  refine ⟨(by exact hS.get 1 rfl), ?_⟩
  refine RH.e hh rfl (by kernel_rfl) (Ef.call hS (phLen _ n lh) rfl rfl Try.call63 [2] [0, 1, 3] (by decide) rfl rfl) ?_
  rintro v16 w ⟨ps, ⟨rfl, rfl⟩, hS⟩
  refine ⟨(by exact hS.get 2 rfl), ?_⟩
  refine RH.q hh (Calm.sq Calm.body) rfl (by kernel_rfl) ((by exact Qt.addI rfl rfl (by dsimp only [inK]; omega))) ?_
  refine RH.q hh (Calm.sq Calm.body) rfl (by kernel_rfl) (Qt.as rfl) ?_
  refine RH.done hh (by kernel_rfl) ?_
  refine RL.nil ?_
  refine RE.sqN ?_
  refine RC.ret ?_
  refine RE.retB rfl ⟨?_, rfl⟩ (sO_shut hI hs0 hs1 (hS.pick [2, 1, 0, 3] (by decide) rfl))
  simp only [oneOf, Value.int.injEq, true_and]
  omega

set_option maxHeartbeats 2000000 in
theorem rdPut0 (p : Value) (n : Nat) (most B : Int) (l : List KItem) (id : Int) (k : KKey) (h0 : 0 ≤ id ∧ id < n) (hr : kRight k = true) (ho : k.ok) (hx : id ∉ kIds l) (hB : B + 1 ≤ 18446744073709551615) :
    Ct Try.prog 65 #[p, .int .i64 id, .agg k.cells.toArray] [sO p n most B l] (fun v ps => v = .tuple #[] ∧ ps = [sO p n most (B + 1) (kput ⟨id, k⟩ l)]) := by
  refine Ct.enter Try.func65 rfl (Nat.le_of_ble_eq_true rfl) ?_
  intro oo w R hS
  change RC _ _ _ _ _ _ [(0, _), (1, _), (2, _)] _
  obtain ⟨lq, lh, seq, b, bq, bh, rfl, hI, hs0, hs1, hqn, hhn, hn, hS⟩ := sO_open hS
  have hnq : id ∉ lq.map RItem.id := fun e => hx (hI.mem.2 (.inr e))
  have hnh : id ∉ pIds lh := fun e => hx (hI.mem.2 (.inl e))
  refine RC.seq ?_
  refine RC.region rfl ?_
  refine RL.e (Ef.box hS rfl) ?_
  rintro _ w ⟨b5, rfl, hS⟩
  try simp (disch := omega) only [cells_agg'] at hS
  refine RL.nil ?_
  refine RE.sqN ?_
  refine RC.seq ?_
  refine RC.seq ?_
  refine RC.region rfl ?_
  refine RL.q (Qt.fld rfl) ?_
  refine RL.q (Qt.ld rfl (by exact hS.at 0 rfl) (by first  | rfl)) ?_
  refine RL.nil ?_
  refine RE.sqN ?_
  refine RC.cond rfl (fun h => ?_) (fun h => ?_)
  · skip
    have h : k.edf = true := h
    have hins : pIns lh n ⟨id, k.dl, seq + 1⟩ = pput ⟨id, k.dl, seq + 1⟩ lh := if_pos (pErr_ok0 (by omega) hnh)
    refine RC.seq ?_
    refine RC.region rfl ?_
    refine RL.q (Qt.mv rfl) ?_
    refine RL.q (Qt.nil rfl) ?_
    refine RL.q (Qt.fld rfl) ?_
    refine RL.q (Qt.ld rfl (by exact hS.at 1 rfl) (by first  | rfl)) ?_
    refine RL.q ((by exact Qt.addI rfl rfl (by dsimp only [inK]; omega))) ?_
    refine RL.q (Qt.nil rfl) ?_
    refine RL.q (Qt.fld rfl) ?_
    refine RL.e0 (Ef.st hS 1 rfl rfl rfl (by rfl) (by rfl) (by exact Nat.le_of_ble_eq_true rfl)) ?_
    intro _ w hS
    simp (disch := omega) only [List.set_cons_zero, List.set_cons_succ, cells_int', Nat.zero_add, wr, List.setIfInBounds_toArray] at hS
    refine RL.nil ?_
    refine RE.sqN ?_
    refine RC.seq ?_
    refine RC.drawn 12 [0, 1, 2, 3, 4, 5, 6, 7, 8, 9, 10, 11] (Same _) (by kernel_rfl) (by kernel_rfl) Same.drew (fun hh => ?_)
    replace hS := hS.drew
    refine RH.q hh (Calm.sq (Calm.sq Calm.body)) rfl (by kernel_rfl) (Qt.mv rfl) ?_
    refine RH.q hh (Calm.sq (Calm.sq Calm.body)) rfl (by kernel_rfl) (Qt.nil rfl) ?_
    refine RH.q hh (Calm.sq (Calm.sq Calm.body)) rfl (by kernel_rfl) (Qt.fld rfl) ?_
    refine RH.q hh (Calm.sq (Calm.sq Calm.body)) rfl (by kernel_rfl) (Qt.fld rfl) ?_
    refine RH.q hh (Calm.sq (Calm.sq Calm.body)) rfl (by kernel_rfl) (Qt.ld rfl (by exact hS.at 1 rfl) (by first  | rfl)) ?_
    refine RH.q hh (Calm.sq (Calm.sq Calm.body)) rfl (by kernel_rfl) (Qt.mv rfl) ?_
    refine RH.q hh (Calm.sq (Calm.sq Calm.body)) rfl (by kernel_rfl) (Qt.fld rfl) ?_
    refine RH.q hh (Calm.sq (Calm.sq Calm.body)) rfl (by kernel_rfl) (Qt.ld rfl (by exact hS.at 0 rfl) (by first  | rfl)) ?_
    refine RH.q hh (Calm.sq (Calm.sq Calm.body)) rfl (by kernel_rfl) (Qt.mv rfl) ?_
    refine RH.q hh (Calm.sq (Calm.sq Calm.body)) rfl (by kernel_rfl) (Qt.nil rfl) ?_
    refine RH.q hh (Calm.sq (Calm.sq Calm.body)) rfl (by kernel_rfl) (Qt.fld rfl) ?_
    refine RH.q hh (Calm.sq (Calm.sq Calm.body)) rfl (by kernel_rfl) (Qt.ld rfl (by exact hS.at 1 rfl) (by first  | rfl)) ?_
    refine RH.done hh (by kernel_rfl) ?_
    refine RL.e (Ef.call hS (phInsert _ n lh ⟨id, k.dl, seq + 1⟩) rfl rfl Try.call85 [3] [0, 1, 2, 4] (by decide) rfl rfl) ?_
    rintro v27 w ⟨ps, ⟨rfl, rfl⟩, hS⟩
    refine RL.nil ?_
    refine RE.sqN ?_
    refine RC.ret ?_
    refine RE.sqR ?_
    rw [hins] at hS
    refine RE.retB rfl ⟨rfl, rfl⟩ (sO_shut (hI.putH h0 hr ho hx h) (by omega) (by omega) (hS.pick [2, 3, 0, 4] (by decide) rfl))
  · skip
    have h : k.edf = false := h
    have hpu : rPush lq n k.lv id = lq ++ [⟨id, k.lv⟩] := by
      have : ¬ rat lq id ≥ 0 := fun e => hnq (rat_mem.1 e)
      exact if_pos (by rw [rPushErr, if_neg (by omega), if_neg this])
    refine RC.skip ?_
    refine RE.sqN ?_
    refine RC.drawn 8 [0, 1, 2, 3, 4, 5, 6, 7] (Same _) (by kernel_rfl) (by kernel_rfl) Same.drew (fun hh => ?_)
    replace hS := hS.drew
    refine RH.q hh Calm.body rfl (by kernel_rfl) (Qt.mv rfl) ?_
    refine RH.q hh Calm.body rfl (by kernel_rfl) (Qt.nil rfl) ?_
    refine RH.q hh Calm.body rfl (by kernel_rfl) (Qt.fld rfl) ?_
    refine RH.q hh Calm.body rfl (by kernel_rfl) (Qt.fld rfl) ?_
    refine RH.q hh Calm.body rfl (by kernel_rfl) (Qt.ld rfl (by exact hS.at 1 rfl) (by first  | rfl)) ?_
    refine RH.q hh Calm.body rfl (by kernel_rfl) (Qt.fld rfl) ?_
    refine RH.q hh Calm.body rfl (by kernel_rfl) (Qt.ld rfl (by exact hS.at 0 rfl) (by first  | rfl)) ?_
    refine RH.q hh Calm.body rfl (by kernel_rfl) (Qt.mv rfl) ?_
    refine RH.done hh (by kernel_rfl) ?_
    refine RL.e (Ef.call hS (bqPush _ n lq k.lv id ho.2) rfl rfl Try.call86 [2] [0, 1, 3, 4] (by decide) rfl rfl) ?_
    rintro v36 w ⟨ps, ⟨rfl, rfl⟩, hS⟩
    refine RL.nil ?_
    rw [hpu] at hS
    refine RE.endB rfl ⟨rfl, rfl⟩ (sO_shut (hI.putQ h0 hr ho hx h) hs0 (by omega) (hS.pick [2, 0, 3, 4] (by decide) rfl))

set_option maxHeartbeats 2000000 in
theorem rdOut0 (p : Value) (n : Nat) (most B : Int) (l : List KItem) (id : Int) (hx : id ∈ kIds l) :
    Ct Try.prog 78 #[p, .int .i64 id] [sO p n most B l] (fun v ps => v = .tuple #[] ∧ ps = [sO p n most B (kout l id)]) := by
  refine Ct.enter Try.func78 rfl (Nat.le_of_ble_eq_true rfl) ?_
  intro oo w R hS
  change RC _ _ _ _ _ _ [(0, _), (1, _)] _
  obtain ⟨lq, lh, seq, b, bq, bh, rfl, hI, hs0, hs1, hqn, hhn, hn, hS⟩ := sO_open hS
  have h0 : 0 ≤ id ∧ id < n := by
    obtain ⟨x, hx2, rfl⟩ := List.mem_map.1 hx
    exact hI.ok.range x hx2
  have hr0 : ¬ (id < 0 ∨ id ≥ n) := by omega
  refine RC.seq ?_
  refine RC.region rfl ?_
  refine RL.q (Qt.mv rfl) ?_
  refine RL.q (Qt.nil rfl) ?_
  refine RL.q (Qt.fld rfl) ?_
  refine RL.q (Qt.fld rfl) ?_
  refine RL.q (Qt.ld rfl (by exact hS.at 0 rfl) (by first  | rfl)) ?_
  refine RL.q (Qt.mv rfl) ?_
  refine RL.e (Ef.call hS (bqRemove _ n lq id) rfl rfl Try.call95 [1] [0, 2, 3] (by decide) rfl rfl) ?_
  rintro v10 w ⟨ps, ⟨rfl, rfl⟩, hS⟩
  refine RL.q (Qt.neq rfl rfl) ?_
  refine RL.nil ?_
  refine RE.sqN ?_
  refine RC.cond rfl (fun h => ?_) (fun h => ?_)
  · skip
    have h : rRemErr lq n id ≠ 0 := by simpa using h
    have hnq : id ∉ lq.map RItem.id := fun e => h (by
      have : ¬ rat lq id < 0 := Int.not_lt.2 (rat_mem.2 e)
      rw [rRemErr, if_neg hr0, if_neg this])
    have hh : id ∈ pIds lh := (hI.mem.1 hx).elim (fun e => e) (fun e => absurd e hnq)
    have hd : pDel lh n id = pout lh id := if_pos (pErr_ok1 hr0 hh)
    have hq : rRem lq n id = lq := if_neg h
    refine RC.region rfl ?_
    refine RL.q (Qt.mv rfl) ?_
    refine RL.q (Qt.nil rfl) ?_
    refine RL.q (Qt.fld rfl) ?_
    refine RL.q (Qt.fld rfl) ?_
    refine RL.q (Qt.ld rfl (by exact hS.at 1 rfl) (by first  | rfl)) ?_
    refine RL.q (Qt.mv rfl) ?_
    refine RL.e (Ef.call hS (phDelete _ n lh id) rfl rfl Try.call96 [2] [0, 1, 3] (by decide) rfl rfl) ?_
    rintro v18 w ⟨ps, ⟨rfl, rfl⟩, hS⟩
    refine RL.nil ?_
    rw [hd, hq] at hS
    exact RE.endB rfl ⟨rfl, rfl⟩ (sO_shut (hI.outH hh) hs0 hs1 (hS.pick [2, 1, 0, 3] (by decide) rfl))
  · refine RC.skip ?_
    have h : rRemErr lq n id = 0 := by simpa using h
    have hm : 0 ≤ rat lq id := by
      rw [rRemErr, if_neg hr0] at h
      by_cases e : rat lq id < 0
      · rw [if_pos e] at h; cases h
      · omega
    have hq : rRem lq n id = rWithout lq id := by rw [rRem, if_pos h]; exact rat_out hqn hm
    rw [hq] at hS
    exact RE.endB rfl ⟨rfl, rfl⟩ (sO_shut (hI.outQ (rat_mem.1 hm) hqn) hs0 hs1 (hS.pick [1, 0, 2, 3] (by decide) rfl))

set_option maxHeartbeats 2000000 in
theorem rdPut (p : Value) (n : Nat) (most B : Int) (l : List KItem) (id : Int) (k : KKey) (ho : k.ok) (hB : B + 1 ≤ 18446744073709551615) :
    Ct Try.prog 41 #[p, .int .i64 id, .agg k.cells.toArray] [sO p n most B l] (fun v ps => v = .int .i64 (kPutErr l n most id k) ∧ ps = [sO p n most (B + 1) (kPut l n most id k)]) := by
  refine Ct.enter Try.func41 rfl (Nat.le_of_ble_eq_true rfl) ?_
  intro oo w R hS
  change RC _ _ _ _ _ _ [(0, _), (1, _), (2, _)] _
  have hkx : k.cells.toArray.extract 0 (0 + 3) = k.cells.toArray := rfl
  refine RC.seq ?_
  refine RC.region rfl ?_
  refine RL.e (Ef.box hS rfl) ?_
  rintro _ w ⟨b5, rfl, hS⟩
  try simp (disch := omega) only [cells_agg'] at hS
  refine RL.q (Qt.as rfl) ?_
  refine RL.nil ?_
  refine RE.sqN ?_
  refine RC.seq ?_
  refine RC.seq ?_
  refine RC.region rfl ?_
  refine RL.q (Qt.mv rfl) ?_
  refine RL.q (Qt.mv rfl) ?_
  refine RL.q (Qt.ldA rfl (by exact hS.at 0 rfl) (by exact hkx) (by exact Nat.le_of_ble_eq_true rfl)) ?_
  refine RL.e (Ef.call hS (kyRight k) rfl rfl Try.call39 [] [0, 1, 2] (by decide) rfl rfl) ?_
  rintro v11 w ⟨ps, ⟨rfl, rfl⟩, hS⟩
  try rw [List.nil_append] at hS
  refine RL.e (Ef.call hS (rdMay p n most B l id (kRight k) false) rfl rfl Try.call64 [1] [0, 2] (by decide) rfl rfl) ?_
  rintro v12 w ⟨ps, ⟨rfl, rfl⟩, hS⟩
  refine RL.q (Qt.as rfl) ?_
  refine RL.nil ?_
  refine RE.sqN ?_
  refine RC.seq ?_
  refine RC.region rfl ?_
  refine RL.q (Qt.mv rfl) ?_
  refine RL.q (Qt.neq rfl rfl) ?_
  refine RL.nil ?_
  refine RE.sqN ?_
  refine RC.cond rfl (fun h => ?_) (fun h => ?_)
  · refine RC.seq ?_
    refine RC.region rfl ?_
    refine RL.q (Qt.mv rfl) ?_
    refine RL.q (Qt.as rfl) ?_
    refine RL.nil ?_
    refine RE.sqN ?_
    refine RC.ret ?_
    refine RE.sqR ?_
    have h : ¬ kErr l n id (kRight k) false = 0 := by simpa using h
    have hpe : kPutErr l n most id k = kErr l n id (kRight k) false := if_neg h
    refine RE.retB rfl (ps := [sO _ n most _ _]) ⟨by rw [hpe]; rfl, rfl⟩ ?_
    rw [kPut, if_neg (by rw [hpe]; exact h)]
    exact sO_mono (by omega) (hS.pick [0, 2] (by decide) rfl)
  · skip
    have h : kErr l n id (kRight k) false = 0 := by simpa using h
    obtain ⟨a1, a2, a3⟩ := kErr_is0 h
    refine RC.skip ?_
    refine RE.sqN ?_
    refine RC.seq ?_
    refine RC.seq ?_
    obtain ⟨lq, lh, seq, b, bq, bh, rfl, hI, hs0, hs1, hqn, hhn, hn, hS⟩ := sO_open hS
    refine RC.drawn 7 [0, 2, 3, 4, 5, 1, 6] (fun w' => w'.heap[b]? = some (.cells #[.pointer (some ⟨bq, 0, none⟩), .pointer (some ⟨bh, 0, none⟩), .int .i64 n, .int .i64 most, .int .u64 seq] 97 (0, 0))) (by kernel_rfl) (by kernel_rfl) ((by exact hS.drew.get 0 rfl)) (fun hh => ?_)
    replace hS := hS.drew
    refine RH.q hh (Calm.sq (Calm.sq Calm.body)) rfl (by kernel_rfl) (Qt.mv rfl) ?_
    refine RH.q hh (Calm.sq (Calm.sq Calm.body)) rfl (by kernel_rfl) (Qt.mv rfl) ?_
    refine RH.q hh (Calm.sq (Calm.sq Calm.body)) rfl (by kernel_rfl) (Qt.nil rfl) ?_
    refine RH.q hh (Calm.sq (Calm.sq Calm.body)) rfl (by kernel_rfl) (Qt.fld rfl) ?_
    refine RH.q hh (Calm.sq (Calm.sq Calm.body)) rfl (by kernel_rfl) (Qt.ld rfl (fun _ h => h) (by first  | rfl)) ?_
    refine RH.e hh rfl (by kernel_rfl) (Ef.call hS (rdLen0 b bq bh n most seq l lq lh hI hn) rfl rfl Try.call40 [0, 1, 2] [3, 4] (by decide) rfl rfl) ?_
    rintro v17 w ⟨ps, ⟨rfl, rfl⟩, hS⟩
    refine ⟨(by exact hS.get 0 rfl), ?_⟩
    refine RH.q hh (Calm.sq (Calm.sq Calm.body)) rfl (by kernel_rfl) (Qt.geq rfl rfl) ?_
    refine RH.done hh (by kernel_rfl) ?_
    refine RL.nil ?_
    refine RE.sqN ?_
    have hS := sO_shut hI hs0 hs1 hS
    refine RC.cond rfl (fun h2 => ?_) (fun h2 => ?_)
    · refine RC.seq ?_
      refine RC.region rfl ?_
      refine RL.q (Qt.as rfl) ?_
      refine RL.nil ?_
      refine RE.sqN ?_
      refine RC.ret ?_
      refine RE.sqR ?_
      have h2 : (l.length : Int) ≥ most := by simpa using h2
      have hpe : kPutErr l n most id k = 4 := by rw [kPutErr, if_pos h, if_pos h2]
      refine RE.retB rfl (ps := [sO _ n most _ _]) ⟨by rw [hpe]; rfl, rfl⟩ ?_
      rw [kPut, if_neg (by rw [hpe]; decide)]
      exact sO_mono (by omega) (hS.pick [0, 2] (by decide) rfl)
    · skip
      have h2 : ¬ (l.length : Int) ≥ most := by simpa using h2
      have hpe : kPutErr l n most id k = 0 := by rw [kPutErr, if_pos h, if_neg h2]
      refine RC.skip ?_
      refine RE.sqN ?_
      refine RC.seq ?_
      refine RC.region rfl ?_
      refine RL.q (Qt.mv rfl) ?_
      refine RL.q (Qt.mv rfl) ?_
      refine RL.q (Qt.ldA rfl (by exact hS.at 1 rfl) (by exact hkx) (by exact Nat.le_of_ble_eq_true rfl)) ?_
      refine RL.e (Ef.call hS (rdPut0 _ n most B l id k a1 a2 ho a3 hB) rfl rfl Try.call65 [0] [1, 2] (by decide) rfl rfl) ?_
      rintro v26 w ⟨ps, ⟨rfl, rfl⟩, hS⟩
      refine RL.nil ?_
      refine RE.sqN ?_
      refine RC.seq ?_
      refine RC.region rfl ?_
      refine RL.q (Qt.as rfl) ?_
      refine RL.nil ?_
      refine RE.sqN ?_
      refine RC.ret ?_
      refine RE.retB rfl (ps := [sO _ n most _ _]) ⟨by rw [hpe]; rfl, rfl⟩ ?_
      rw [kPut, if_pos hpe]
      exact hS.pick [0, 2] (by decide) rfl

set_option maxHeartbeats 2000000 in
theorem rdChange (p : Value) (n : Nat) (most B : Int) (l : List KItem) (id : Int) (k : KKey) (ho : k.ok) (hB : B + 1 ≤ 18446744073709551615) :
    Ct Try.prog 54 #[p, .int .i64 id, .agg k.cells.toArray] [sO p n most B l] (fun v ps => v = .int .i64 (kErr l n id (kRight k) true) ∧ ps = [sO p n most (B + 1) (kChg l n id k)]) := by
  refine Ct.enter Try.func54 rfl (Nat.le_of_ble_eq_true rfl) ?_
  intro oo w R hS
  change RC _ _ _ _ _ _ [(0, _), (1, _), (2, _)] _
  have hkx : k.cells.toArray.extract 0 (0 + 3) = k.cells.toArray := rfl
  have hkw : ∀ k : KKey, (wr #[.bool false, .int .u64 0, .int .u8 0] 0 k.cells).extract 0 (0 + 3) = k.cells.toArray := fun k => rfl
  refine RC.seq ?_
  refine RC.region rfl ?_
  refine RL.e (Ef.box hS rfl) ?_
  rintro _ w ⟨b5, rfl, hS⟩
  try simp (disch := omega) only [cells_agg'] at hS
  refine RL.q (Qt.as rfl) ?_
  refine RL.nil ?_
  refine RE.sqN ?_
  refine RC.seq ?_
  refine RC.seq ?_
  refine RC.region rfl ?_
  refine RL.q (Qt.mv rfl) ?_
  refine RL.q (Qt.mv rfl) ?_
  refine RL.q (Qt.ldA rfl (by exact hS.at 0 rfl) (by exact hkx) (by exact Nat.le_of_ble_eq_true rfl)) ?_
  refine RL.e (Ef.call hS (kyRight k) rfl rfl Try.call39 [] [0, 1, 2] (by decide) rfl rfl) ?_
  rintro v13 w ⟨ps, ⟨rfl, rfl⟩, hS⟩
  try rw [List.nil_append] at hS
  refine RL.e (Ef.call hS (rdMay p n most B l id (kRight k) true) rfl rfl Try.call64 [1] [0, 2] (by decide) rfl rfl) ?_
  rintro v14 w ⟨ps, ⟨rfl, rfl⟩, hS⟩
  refine RL.q (Qt.as rfl) ?_
  refine RL.nil ?_
  refine RE.sqN ?_
  refine RC.seq ?_
  refine RC.region rfl ?_
  refine RL.q (Qt.mv rfl) ?_
  refine RL.q (Qt.neq rfl rfl) ?_
  refine RL.nil ?_
  refine RE.sqN ?_
  refine RC.cond rfl (fun h => ?_) (fun h => ?_)
  · refine RC.seq ?_
    refine RC.region rfl ?_
    refine RL.q (Qt.mv rfl) ?_
    refine RL.q (Qt.as rfl) ?_
    refine RL.nil ?_
    refine RE.sqN ?_
    refine RC.ret ?_
    refine RE.sqR ?_
    have h : ¬ kErr l n id (kRight k) true = 0 := by simpa using h
    refine RE.retB rfl (ps := [sO _ n most _ _]) ⟨rfl, rfl⟩ ?_
    rw [kChg, if_neg (fun e => h e.1)]
    exact sO_mono (by omega) (hS.pick [0, 2] (by decide) rfl)
  · skip
    have h : kErr l n id (kRight k) true = 0 := by simpa using h
    obtain ⟨a1, a2, a3⟩ := kErr_is1 h
    refine RC.skip ?_
    refine RE.sqN ?_
    refine RC.seq ?_
    refine RC.seq ?_
    refine RC.region rfl ?_
    refine RL.q (Qt.mv rfl) ?_
    refine RL.q (Qt.mv rfl) ?_
    refine RL.e (Ef.call hS (rdKey p n most B l id) rfl rfl Try.call77 [0] [1, 2] (by decide) rfl rfl) ?_
    rintro v21 w ⟨ps, ⟨rfl, rfl⟩, hS⟩
    refine RL.q (Qt.mv rfl) ?_
    refine RL.q (Qt.ext rfl rfl) ?_
    refine RL.q (Qt.ext rfl rfl) ?_
    refine RL.e (Ef.alloc hS) ?_
    rintro _ w ⟨b8, rfl, hS⟩
    try simp (disch := omega) only [cells_agg'] at hS
    refine RL.e0 (Ef.st hS 0 rfl rfl rfl (by rfl) (by rfl) (by exact Nat.le_of_ble_eq_true rfl)) ?_
    intro _ w hS
    simp (disch := omega) only [List.set_cons_zero, cells_agg'] at hS
    refine RL.q (Qt.as rfl) ?_
    refine RL.nil ?_
    refine RE.sqN ?_
    refine RC.seq ?_
    refine RC.region rfl ?_
    refine RL.q (Qt.ldA rfl (by exact hS.at 0 rfl) (by exact hkw _) (by exact Nat.le_of_ble_eq_true rfl)) ?_
    refine RL.q (Qt.ldA rfl (by exact hS.at 2 rfl) (by exact hkx) (by exact Nat.le_of_ble_eq_true rfl)) ?_
    refine RL.q (Qt.neqT rfl rfl (keyEq (kGetK l id) k)) ?_
    refine RL.nil ?_
    refine RE.sqN ?_
    refine RC.cond rfl (fun h3 => ?_) (fun h3 => ?_)
    · skip
      have h3 : kGetK l id ≠ k := by simpa using h3
      have hx2 : id ∉ kIds (kout l id) := by rw [mem_kout_ids]; simp
      refine RC.seq ?_
      refine RC.region rfl ?_
      refine RL.q (Qt.mv rfl) ?_
      refine RL.q (Qt.mv rfl) ?_
      refine RL.e (Ef.call hS (rdOut0 p n most B l id a3) rfl rfl Try.call78 [1] [0, 2, 3] (by decide) rfl rfl) ?_
      rintro v29 w ⟨ps, ⟨rfl, rfl⟩, hS⟩
      refine RL.nil ?_
      refine RE.sqN ?_
      refine RC.region rfl ?_
      refine RL.q (Qt.mv rfl) ?_
      refine RL.q (Qt.mv rfl) ?_
      refine RL.q (Qt.ldA rfl (by exact hS.at 2 rfl) (by exact hkx) (by exact Nat.le_of_ble_eq_true rfl)) ?_
      refine RL.e (Ef.call hS (rdPut0 p n most B (kout l id) id k a1 a2 ho hx2 hB) rfl rfl Try.call65 [0] [1, 2, 3] (by decide) rfl rfl) ?_
      rintro v33 w ⟨ps, ⟨rfl, rfl⟩, hS⟩
      refine RL.nil ?_
      refine RE.sqN ?_
      refine RC.seq ?_
      refine RC.region rfl ?_
      refine RL.q (Qt.as rfl) ?_
      refine RL.nil ?_
      refine RE.sqN ?_
      refine RC.ret ?_
      refine RE.retB rfl (ps := [sO _ n most _ _]) ⟨by rw [h]; rfl, rfl⟩ ?_
      rw [kChg, if_pos ⟨h, h3⟩]
      exact hS.pick [0, 3] (by decide) rfl
    · refine RC.skip ?_
      refine RE.sqN ?_
      refine RC.seq ?_
      refine RC.region rfl ?_
      refine RL.q (Qt.as rfl) ?_
      refine RL.nil ?_
      refine RE.sqN ?_
      refine RC.ret ?_
      have h3 : kGetK l id = k := by simpa using h3
      refine RE.retB rfl (ps := [sO _ n most _ _]) ⟨by rw [h]; rfl, rfl⟩ ?_
      rw [kChg, if_neg (fun e => e.2 h3)]
      exact sO_mono (by omega) (hS.pick [1, 3] (by decide) rfl)

set_option maxHeartbeats 2000000 in
theorem rdRemove (p : Value) (n : Nat) (most B : Int) (l : List KItem) (id : Int) :
    Ct Try.prog 55 #[p, .int .i64 id] [sO p n most B l] (fun v ps => v = .int .i64 (kErr l n id true true) ∧ ps = [sO p n most B (kRem l n id)]) := by
  refine Ct.enter Try.func55 rfl (Nat.le_of_ble_eq_true rfl) ?_
  intro oo w R hS
  change RC _ _ _ _ _ _ [(0, _), (1, _)] _
  refine RC.seq ?_
  refine RC.region rfl ?_
  refine RL.q (Qt.as rfl) ?_
  refine RL.nil ?_
  refine RE.sqN ?_
  refine RC.seq ?_
  refine RC.region rfl ?_
  refine RL.q (Qt.mv rfl) ?_
  refine RL.q (Qt.mv rfl) ?_
  refine RL.e (Ef.call hS (rdMay p n most B l id true true) rfl rfl Try.call64 [0] [1] (by decide) rfl rfl) ?_
  rintro v8 w ⟨ps, ⟨rfl, rfl⟩, hS⟩
  refine RL.q (Qt.as rfl) ?_
  refine RL.nil ?_
  refine RE.sqN ?_
  refine RC.seq ?_
  refine RC.seq ?_
  refine RC.region rfl ?_
  refine RL.q (Qt.mv rfl) ?_
  refine RL.q (Qt.eql rfl rfl) ?_
  refine RL.nil ?_
  refine RE.sqN ?_
  refine RC.cond rfl (fun h => ?_) (fun h => ?_)
  · skip
    have h : kErr l n id true true = 0 := by simpa using h
    obtain ⟨a1, a2, a3⟩ := kErr_is1 h
    refine RC.region rfl ?_
    refine RL.q (Qt.mv rfl) ?_
    refine RL.q (Qt.mv rfl) ?_
    refine RL.e (Ef.call hS (rdOut0 p n most B l id a3) rfl rfl Try.call78 [0] [1] (by decide) rfl rfl) ?_
    rintro v13 w ⟨ps, ⟨rfl, rfl⟩, hS⟩
    refine RL.nil ?_
    refine RE.sqN ?_
    refine RC.seq ?_
    refine RC.region rfl ?_
    refine RL.q (Qt.mv rfl) ?_
    refine RL.q (Qt.as rfl) ?_
    refine RL.nil ?_
    refine RE.sqN ?_
    refine RC.ret ?_
    exact RE.retB rfl ⟨rfl, by rw [kRem, if_pos h]⟩ hS
  · refine RC.skip ?_
    refine RE.sqN ?_
    refine RC.seq ?_
    refine RC.region rfl ?_
    refine RL.q (Qt.mv rfl) ?_
    refine RL.q (Qt.as rfl) ?_
    refine RL.nil ?_
    refine RE.sqN ?_
    refine RC.ret ?_
    have h : ¬ kErr l n id true true = 0 := by simpa using h
    exact RE.retB rfl ⟨rfl, by rw [kRem, if_neg h]⟩ hS
end Go.Proofs

/- The set of layer 10 itself: Top, Take, List, Fork, New. -/
namespace Go.Proofs
open Go Go.Gx
variable {oo : World}

set_option maxHeartbeats 2000000 in
theorem rdTop (p : Value) (n : Nat) (most B : Int) (l : List KItem) : Ct Try.prog 43 #[p] [sO p n most B l] (fun v ps => v = .tuple #[.int .i64 (kTopId l), .agg (kTopK l).cells.toArray, .bool (kTopOk l)] ∧ ps = [sO p n most B l]) := by
  refine Ct.enter Try.func43 rfl (Nat.le_of_ble_eq_true rfl) ?_
  intro oo w R hS
  change RC _ _ _ _ _ _ [(0, _)] _
  obtain ⟨lq, lh, seq, b, bq, bh, rfl, hI, hs0, hs1, hqn, hhn, hn, hS⟩ := sO_open hS
  refine RC.seq ?_
  refine RC.region rfl ?_
  refine RL.q (Qt.as rfl) ?_
  refine RL.e (Ef.alloc hS) ?_
  rintro _ w ⟨b3, rfl, hS⟩
  try simp (disch := omega) only [cells_agg'] at hS
  refine RL.q (Qt.as rfl) ?_
  refine RL.nil ?_
  refine RE.sqN ?_
  refine RC.seq ?_
  refine RC.seq ?_
  refine RC.region rfl ?_
  refine RL.q (Qt.mv rfl) ?_
  refine RL.q (Qt.eqlN rfl rfl) ?_
  refine RL.nil ?_
  refine RE.sqN ?_
  refine RC.condF rfl (rfl) ?_
  refine RC.skip ?_
  refine RE.sqN ?_
  refine RC.seq ?_
  refine RC.seq ?_
  refine RC.region rfl ?_
  refine RL.q (Qt.mv rfl) ?_
  refine RL.q (Qt.nil rfl) ?_
  refine RL.q (Qt.fld rfl) ?_
  refine RL.q (Qt.fld rfl) ?_
  refine RL.q (Qt.ld rfl (by exact hS.at 1 rfl) (by first  | rfl)) ?_
  refine RL.e (Ef.call hS (phMin _ n lh) rfl rfl Try.call67 [3] [0, 1, 2, 4] (by decide) rfl rfl) ?_
  rintro v22 w ⟨ps, ⟨rfl, rfl⟩, hS⟩
  refine RL.q (Qt.mv rfl) ?_
  refine RL.q (Qt.ext rfl rfl) ?_
  refine RL.q (Qt.ext rfl rfl) ?_
  refine RL.q (Qt.as rfl) ?_
  refine RL.q (Qt.as rfl) ?_
  refine RL.nil ?_
  refine RE.sqN ?_
  refine RC.seq ?_
  refine RC.region rfl ?_
  refine RL.q (Qt.mv rfl) ?_
  refine RL.nil ?_
  refine RE.sqN ?_
  refine RC.cond rfl (fun h => ?_) (fun h => ?_)
  · skip
    cases lh with
    | nil => cases h
    | cons y t =>
      obtain ⟨g1, g2, g3, _⟩ := hI.topH rfl
      rw [g1, g2, g3]
      have hg : pGetD (y :: t) (pMinId (y :: t)) = y.dl := by
        show pGetD (y :: t) y.id = y.dl
        rw [pGetD, pGet?_some hhn (by simp)]; rfl
      refine RC.seq ?_
      refine RC.region rfl ?_
      refine RL.q (Qt.mv rfl) ?_
      refine RL.q (Qt.nil rfl) ?_
      refine RL.q (Qt.fld rfl) ?_
      refine RL.q (Qt.fld rfl) ?_
      refine RL.q (Qt.ld rfl (by exact hS.at 2 rfl) (by first  | rfl)) ?_
      refine RL.q (Qt.mv rfl) ?_
      refine RL.e (Ef.call hS (phGet _ n (y :: t) (pMinId (y :: t))) rfl rfl Try.call68 [0] [1, 2, 3, 4] (by decide) rfl rfl) ?_
      rintro v33 w ⟨ps, ⟨rfl, rfl⟩, hS⟩
      refine RL.q (Qt.mv rfl) ?_
      refine RL.q (Qt.ext rfl rfl) ?_
      refine RL.q (Qt.ext rfl rfl) ?_
      refine RL.q (Qt.ext rfl rfl) ?_
      refine RL.q (Qt.as rfl) ?_
      refine RL.q (Qt.as rfl) ?_
      refine RL.q (Qt.as rfl) ?_
      refine RL.nil ?_
      refine RE.sqN ?_
      refine RC.seq ?_
      refine RC.region rfl ?_
      refine RL.q (Qt.mv rfl) ?_
      refine RL.q (Qt.mv rfl) ?_
      refine RL.e (Ef.call hS (kyDead _) rfl rfl Try.call17 [] [0, 1, 2, 3, 4] (by decide) rfl rfl) ?_
      rintro v39 w ⟨ps, ⟨rfl, rfl⟩, hS⟩
      try rw [List.nil_append] at hS
      refine RL.q (Qt.as rfl) ?_
      refine RL.e0 (Ef.st hS 1 rfl rfl rfl (by rfl) (by rfl) (by exact Nat.le_of_ble_eq_true rfl)) ?_
      intro _ w hS
      simp (disch := omega) only [List.set_cons_zero, List.set_cons_succ, cells_agg'] at hS
      refine RL.q (Qt.as rfl) ?_
      refine RL.nil ?_
      refine RE.sqN ?_
      refine RC.ret ?_
      refine RE.sqR ?_
      rw [hg] at hS
      exact RE.retW (vs := [.int .i64 y.id, .agg (kDead y.dl).cells.toArray, .bool true]) (by repeat (first | exact ResW.nil | refine ResW.tmp rfl ?_ | refine ResW.cell (by infer_instance) rfl rfl (by exact hS.get 1 rfl) rfl (Nat.le_of_ble_eq_true rfl) ?_)) ⟨rfl, rfl⟩ (sO_shut hI hs0 hs1 (hS.pick [2, 3, 0, 4] (by decide) rfl))
  · skip
    cases lh with
    | cons y t => cases h
    | nil =>
      obtain ⟨g1, g2⟩ := hI.topQ rfl hqn
      refine RC.skip ?_
      refine RE.sqN ?_
      refine RC.seq ?_
      refine RC.seq ?_
      refine RC.region rfl ?_
      refine RL.q (Qt.mv rfl) ?_
      refine RL.q (Qt.nil rfl) ?_
      refine RL.q (Qt.fld rfl) ?_
      refine RL.q (Qt.fld rfl) ?_
      refine RL.q (Qt.ld rfl (by exact hS.at 2 rfl) (by first  | rfl)) ?_
      refine RL.e (Ef.call hS (bqTopR _ n lq) rfl rfl Try.call69 [3] [0, 1, 2, 4] (by decide) rfl rfl) ?_
      rintro v46 w ⟨ps, ⟨rfl, rfl⟩, hS⟩
      refine RL.q (Qt.mv rfl) ?_
      refine RL.q (Qt.ext rfl rfl) ?_
      refine RL.q (Qt.ext rfl rfl) ?_
      refine RL.q (Qt.ext rfl rfl) ?_
      refine RL.q (Qt.as rfl) ?_
      refine RL.q (Qt.as rfl) ?_
      refine RL.q (Qt.as rfl) ?_
      refine RL.nil ?_
      refine RE.sqN ?_
      refine RC.seq ?_
      refine RC.region rfl ?_
      refine RL.q (Qt.mv rfl) ?_
      refine RL.nil ?_
      refine RE.sqN ?_
      refine RC.cond rfl (fun h2 => ?_) (fun h2 => ?_)
      · skip
        have h2 : topOk lq = true := h2
        obtain ⟨g3, g4⟩ := g2 h2
        rw [g3, g4, ← g1, h2]
        refine RC.seq ?_
        refine RC.region rfl ?_
        refine RL.q (Qt.mv rfl) ?_
        refine RL.q (Qt.mv rfl) ?_
        refine RL.e (Ef.call hS (kyFixed _) rfl rfl Try.call16 [] [0, 1, 2, 3, 4] (by decide) rfl rfl) ?_
        rintro v53 w ⟨ps, ⟨rfl, rfl⟩, hS⟩
        try rw [List.nil_append] at hS
        refine RL.q (Qt.as rfl) ?_
        refine RL.e0 (Ef.st hS 2 rfl rfl rfl (by rfl) (by rfl) (by exact Nat.le_of_ble_eq_true rfl)) ?_
        intro _ w hS
        simp (disch := omega) only [List.set_cons_zero, List.set_cons_succ, cells_agg'] at hS
        refine RL.q (Qt.as rfl) ?_
        refine RL.nil ?_
        refine RE.sqN ?_
        refine RC.ret ?_
        refine RE.sqR ?_
        exact RE.retW (vs := [.int .i64 (topId lq), .agg (kFixed (topLv lq)).cells.toArray, .bool true]) (by repeat (first | exact ResW.nil | refine ResW.tmp rfl ?_ | refine ResW.cell (by infer_instance) rfl rfl (by exact hS.get 2 rfl) rfl (Nat.le_of_ble_eq_true rfl) ?_)) ⟨rfl, rfl⟩ (sO_shut hI hs0 hs1 (hS.pick [3, 0, 1, 4] (by decide) rfl))
      · refine RC.skip ?_
        refine RE.sqN ?_
        refine RC.seq ?_
        refine RC.region rfl ?_
        refine RL.q (Qt.bldV [.const (Go.Value.bool false), .const (Go.Value.int Go.IntKind.u64 0), .const (Go.Value.int Go.IntKind.u8 0)] rfl rfl (by kernel_rfl)) ?_
        refine RL.q (Qt.as rfl) ?_
        refine RL.e0 (Ef.st hS 2 rfl rfl rfl (by rfl) (by rfl) (by exact Nat.le_of_ble_eq_true rfl)) ?_
        intro _ w hS
        simp (disch := omega) only [List.set_cons_zero, List.set_cons_succ, cells_agg', Nat.zero_add, wr, List.setIfInBounds_toArray] at hS
        refine RL.q (Qt.as rfl) ?_
        refine RL.nil ?_
        refine RE.sqN ?_
        refine RC.ret ?_
        have h2 : topOk lq = false := h2
        have hl : l = [] := by
          rw [h2] at g1
          cases l with
          | nil => rfl
          | cons x l => cases g1
        have k1 : kTopId l = 0 := by rw [hl]; rfl
        have k2 : kTopK l = KKey.none := by rw [hl]; rfl
        have k3 : kTopOk l = false := by rw [hl]; rfl
        rw [k1, k2, k3]
        exact RE.retW (vs := [.int .i64 0, .agg KKey.none.cells.toArray, .bool false]) (by repeat (first | exact ResW.nil | refine ResW.tmp rfl ?_ | refine ResW.cell (by infer_instance) rfl rfl (by exact hS.get 2 rfl) rfl (Nat.le_of_ble_eq_true rfl) ?_)) ⟨rfl, rfl⟩ (sO_shut hI hs0 hs1 (hS.pick [3, 0, 1, 4] (by decide) rfl))

theorem ints_plainR (l : List Int) : (ints l).all Value.plain = true := by
  rw [List.all_map, List.all_eq_true]
  intro x _; rfl
theorem bqListR (p : Value) (n : Nat) (l : List RItem) (lv : Int) (hlv : 0 ≤ lv ∧ lv ≤ 255) : Ct Try.prog 72 #[p, .int .u8 lv] [qO p n l] (fun v ps => ps = [ownI v (rIds l lv), qO p n l]) := fun oo w R hS => by
  obtain ⟨q, W, b, bl, cap, c, cl, hp, hq, _⟩ := qO_open hS
  subst hp
  have h1 := hq.ri.lenLe
  have h2 := hq.max
  have h3 := rIds_leLen l lv
  exact bqList b n l lv hlv (by omega) oo w R hS

set_option maxHeartbeats 2000000 in
theorem rdList (p : Value) (n : Nat) (most B : Int) (l : List KItem) : Ct Try.prog 47 #[p] [sO p n most B l] (fun v ps => ps = [ownI v (kIds l), sO p n most B l]) := by
  refine Ct.enter Try.func47 rfl (Nat.le_of_ble_eq_true rfl) ?_
  intro oo w R hS
  change RC _ _ _ _ _ _ [(0, _)] _
  obtain ⟨lq, lh, seq, b, bq, bh, rfl, hI, hs0, hs1, hqn, hhn, hn, hS⟩ := sO_open hS
  refine RC.seq ?_
  refine RC.region rfl ?_
  refine RL.q (Qt.as rfl) ?_
  refine RL.nil ?_
  refine RE.sqN ?_
  refine RC.seq ?_
  refine RC.seq ?_
  refine RC.region rfl ?_
  refine RL.q (Qt.mv rfl) ?_
  refine RL.q (Qt.eqlN rfl rfl) ?_
  refine RL.nil ?_
  refine RE.sqN ?_
  refine RC.condF rfl (rfl) ?_
  refine RC.skip ?_
  refine RE.sqN ?_
  refine RC.seq ?_
  refine RC.region rfl ?_
  refine RL.q (Qt.mv rfl) ?_
  refine RL.q (Qt.nil rfl) ?_
  refine RL.q (Qt.fld rfl) ?_
  refine RL.q (Qt.fld rfl) ?_
  refine RL.q (Qt.ld rfl (by exact hS.at 0 rfl) (by first  | rfl)) ?_
  refine RL.e (Ef.call hS (phList _ n lh) rfl rfl Try.call71 [2] [0, 1, 3] (by decide) rfl rfl) ?_
  rintro v12 w ⟨ps, rfl, hS⟩
  refine RL.q (Qt.as rfl) ?_
  refine RL.nil ?_
  refine RE.sqN ?_
  refine RC.seq ?_
  refine RC.seq ?_
  refine RC.region rfl ?_
  refine RL.q (Qt.as rfl) ?_
  refine RL.nil ?_
  refine RE.sqN ?_
  refine RC.block ?_
  refine RC.loop (γ := Int × Value) (fun g E w' => E = [(4, .int .i64 g.1), (3, g.2), (0, .pointer (some ⟨b, 0, none⟩))] ∧ (-1 ≤ g.1 ∧ g.1 ≤ 255) ∧ Sat oo w' [ownI g.2 (rdPre lq lh (255 - g.1).toNat), hO (.pointer (some ⟨bh, 0, none⟩)) n lh, pt b (.cells #[.pointer (some ⟨bq, 0, none⟩), .pointer (some ⟨bh, 0, none⟩), .int .i64 n, .int .i64 most, .int .u64 seq] 97 (0, 0)), qO (.pointer (some ⟨bq, 0, none⟩)) n lq, R]) (fun g => (g.1 + 1).toNat) (255, v12) _ (by (repeat (first | exact Sub.nil | refine Sub.cons rfl ?_))) ⟨rfl, ⟨by dsimp only; omega, by dsimp only; omega⟩, by rw [show rdPre lq lh (255 - (255 : Int)).toNat = pIds lh by simp [rdPre]]; exact hS⟩ ?_
  clear hS
  rintro ⟨lev, v⟩ E w ⟨rfl, hlev, hS⟩
  dsimp only at hlev hS
  refine RC.seq ?_
  refine RC.seq ?_
  refine RC.region rfl ?_
  refine RL.q (Qt.mv rfl) ?_
  refine RL.q (Qt.geq rfl rfl) ?_
  refine RL.nil ?_
  refine RE.sqN ?_
  refine RC.cond rfl (fun h => ?_) (fun h => ?_)
  · skip
    have h5 : lev ≥ 0 := of_decide_eq_true h
    have hb := hI.pre_len (j := (255 - lev).toNat + 1) (by omega)
    have hsu := rdPre_succ lq lh (255 - lev).toNat
    rw [show (255 : Int) - ((255 - lev).toNat : Nat) = lev by omega] at hsu
    rw [hsu, List.length_append] at hb
    obtain ⟨spo, cpo, rfl⟩ := hS.ownForm 0 rfl
    refine RC.skip ?_
    refine RE.sqN ?_
    refine RC.seq ?_
    refine RC.block ?_
    refine RC.region rfl ?_
    refine RL.q (Qt.mv rfl) ?_
    refine RL.q (Qt.mv rfl) ?_
    refine RL.q (Qt.nil rfl) ?_
    refine RL.q (Qt.fld rfl) ?_
    refine RL.q (Qt.fld rfl) ?_
    refine RL.q (Qt.ld rfl (by exact hS.at 2 rfl) (by first  | rfl)) ?_
    refine RL.q (Qt.mv rfl) ?_
    refine RL.q ((by exact Qt.cvtI rfl (by dsimp only [inK]; omega))) ?_
    refine RL.e (Ef.call hS (bqListR _ n lq lev ⟨h5, hlev.2⟩) rfl rfl Try.call72 [3] [0, 1, 2, 4] (by decide) rfl rfl) ?_
    rintro v25 w ⟨ps, rfl, hS⟩
    obtain ⟨spn, cpn, rfl⟩ := hS.ownForm 0 rfl
    refine RL.e (Ef.app (k := 2) hS rfl rfl rfl (Src.own hS 0 rfl) (by omega) (ints_plainR _)) ?_
    intro s26 w hS
    simp only [List.set_cons_zero, List.set_cons_succ, List.cons_append, List.nil_append] at hS
    (obtain ⟨sp26, cp26, rfl⟩ := hS.ownForm 2 rfl)
    refine RL.q (Qt.as rfl) ?_
    refine RL.nil ?_
    refine RE.bkN ?_
    refine RE.sqN ?_
    refine RC.region rfl ?_
    refine RL.q (Qt.mv rfl) ?_
    refine RL.q ((by exact Qt.subI rfl rfl (by dsimp only [inK]; omega))) ?_
    refine RL.q (Qt.as rfl) ?_
    refine RL.nil ?_
    apply RE.lpN ((lev - 1, .slice sp26 ((rdPre lq lh (255 - lev).toNat).length + (rIds lq lev).length) cp26))
    case hI =>
      refine ⟨rfl, by dsimp only; omega, ?_⟩
      dsimp only
      rw [show (255 - (lev - 1)).toNat = (255 - lev).toNat + 1 by omega, hsu]
      unfold ownI
      rw [List.length_append, ints, List.map_append]
      exact hS.pick [2, 3, 4, 1, 5] (by decide) rfl
    case hs => (repeat (first | exact Sub.nil | refine Sub.cons rfl ?_))
    case hm =>
      show (lev - 1 + 1).toNat < (lev + 1).toNat
      omega
  · refine RC.exit ?_
    refine RE.sqX ?_
    refine RE.lpX ?_
    refine RE.bkX ?_
    refine RE.sqN ?_
    refine RC.seq ?_
    refine RC.region rfl ?_
    refine RL.q (Qt.mv rfl) ?_
    refine RL.q (Qt.as rfl) ?_
    refine RL.nil ?_
    refine RE.sqN ?_
    refine RC.ret ?_
    have h : ¬ lev ≥ 0 := of_decide_eq_false h
    have e : (255 - lev).toNat = 256 := by omega
    rw [e, show rdPre lq lh 256 = kIds l from hI.listed.symm] at hS
    refine RE.retB rfl (ps := [ownI v (kIds l), sO _ n most B l]) rfl ?_
    exact (sO_shut hI hs0 hs1 (hS.pick [2, 3, 1, 0, 4] (by decide) rfl)).pick [1, 0, 2] (by decide) rfl
end Go.Proofs

/- The set of layer 10 itself: Fork, New. -/
namespace Go.Proofs
open Go Go.Gx
variable {oo : World}

theorem bqForkR (p : Value) (n : Nat) (l : List RItem) : Ct Try.prog 79 #[p] [qO p n l] (fun v ps => (∃ b, v = .pointer (some ⟨b, 0, none⟩)) ∧ ps = [qO v n l, qO p n l]) := fun oo w R hS =>
  (bqFork p n l oo w R hS).mono fun e w' ⟨v, ps, he, hp, hS'⟩ => by
    subst hp
    exact ⟨v, _, he, ⟨(hS'.fact 0 rfl (fun F hF => qO_fact hF)).1, rfl⟩, hS'⟩
theorem bqNewR (n : Int) (h0 : 1 ≤ n) (h1 : n ≤ 1024) : Ct Try.prog 60 #[.int .i64 n] [] (fun v ps => (∃ b, v = .pointer (some ⟨b, 0, none⟩)) ∧ ps = [qO v n.toNat []]) := fun oo w R hS =>
  (bqNew n h0 h1 oo w R hS).mono fun e w' ⟨v, ps, he, hp, hS'⟩ => by
    subst hp
    exact ⟨v, _, he, ⟨(hS'.fact 0 rfl (fun F hF => qO_fact hF)).1, rfl⟩, hS'⟩

set_option maxHeartbeats 2000000 in
theorem rdFork (p : Value) (n : Nat) (most B : Int) (l : List KItem) : Ct Try.prog 56 #[p] [sO p n most B l] (fun v ps => (∃ b, v = .pointer (some ⟨b, 0, none⟩)) ∧ ps = [sO v n most B l, sO p n most B l]) := by
  refine Ct.enter Try.func56 rfl (Nat.le_of_ble_eq_true rfl) ?_
  intro oo w R hS
  change RC _ _ _ _ _ _ [(0, _)] _
  obtain ⟨lq, lh, seq, b, bq, bh, rfl, hI, hs0, hs1, hqn, hhn, hn, hS⟩ := sO_open hS
  refine RC.seq ?_
  refine RC.region rfl ?_
  refine RL.q (Qt.as rfl) ?_
  refine RL.nil ?_
  refine RE.sqN ?_
  refine RC.seq ?_
  refine RC.seq ?_
  refine RC.region rfl ?_
  refine RL.q (Qt.mv rfl) ?_
  refine RL.q (Qt.eqlN rfl rfl) ?_
  refine RL.nil ?_
  refine RE.sqN ?_
  refine RC.condF rfl (rfl) ?_
  refine RC.skip ?_
  refine RE.sqN ?_
  refine RC.seq ?_
  refine RC.region rfl ?_
  refine RL.q (Qt.mv rfl) ?_
  refine RL.q (Qt.nil rfl) ?_
  refine RL.q (Qt.ldA rfl (by exact hS.at 0 rfl) (by first  | rfl) (by exact Nat.le_of_ble_eq_true rfl)) ?_
  refine RL.e (Ef.alloc hS) ?_
  rintro _ w ⟨b3, rfl, hS⟩
  try simp (disch := omega) only [cells_agg'] at hS
  refine RL.e0 (Ef.st hS 0 rfl rfl rfl (by rfl) (by rfl) (by exact Nat.le_of_ble_eq_true rfl)) ?_
  intro _ w hS
  simp (disch := omega) only [List.set_cons_zero, cells_agg', Nat.zero_add] at hS
  refine RL.nil ?_
  refine RE.sqN ?_
  refine RC.seq ?_
  refine RC.drawn 15 [0, 1, 2, 3, 4, 6, 7, 8, 9, 10, 5, 11, 12, 13, 14] (fun w' => w'.heap[b]? = some (.cells #[.pointer (some ⟨bq, 0, none⟩), .pointer (some ⟨bh, 0, none⟩), .int .i64 n, .int .i64 most, .int .u64 seq] 97 (0, 0))) (by kernel_rfl) (by kernel_rfl) ((by exact hS.drew.get 1 rfl)) (fun hh => ?_)
  replace hS := hS.drew
  refine RH.q hh (Calm.sq Calm.body) rfl (by kernel_rfl) (Qt.mv rfl) ?_
  refine RH.q hh (Calm.sq Calm.body) rfl (by kernel_rfl) (Qt.nil rfl) ?_
  refine RH.q hh (Calm.sq Calm.body) rfl (by kernel_rfl) (Qt.fld rfl) ?_
  refine RH.q hh (Calm.sq Calm.body) rfl (by kernel_rfl) (Qt.fld rfl) ?_
  refine RH.q hh (Calm.sq Calm.body) rfl (by kernel_rfl) (Qt.ld rfl (fun _ h => h) (by first  | rfl)) ?_
  refine RH.q hh (Calm.sq Calm.body) rfl (by kernel_rfl) (Qt.mv rfl) ?_
  refine RH.q hh (Calm.sq Calm.body) rfl (by kernel_rfl) (Qt.nil rfl) ?_
  refine RH.q hh (Calm.sq Calm.body) rfl (by kernel_rfl) (Qt.fld rfl) ?_
  refine RH.q hh (Calm.sq Calm.body) rfl (by kernel_rfl) (Qt.fld rfl) ?_
  refine RH.q hh (Calm.sq Calm.body) rfl (by kernel_rfl) (Qt.ld rfl (fun _ h => h) (by first  | rfl)) ?_
  refine RH.e hh rfl (by kernel_rfl) (Ef.call hS (bqForkR _ n lq) rfl rfl Try.call79 [2] [0, 1, 3, 4] (by decide) rfl rfl) ?_
  rintro v14 w ⟨ps, ⟨⟨bf, rfl⟩, rfl⟩, hS⟩
  refine ⟨(by exact hS.get 3 rfl), ?_⟩
  refine RH.e hh rfl (by kernel_rfl) (Ef.call hS (phFork _ n lh) rfl rfl Try.call80 [4] [0, 1, 2, 3, 5] (by decide) rfl rfl) ?_
  rintro v20 w ⟨ps, ⟨⟨bg, rfl⟩, rfl⟩, hS⟩
  refine ⟨(by exact hS.get 5 rfl), ?_⟩
  refine RH.q hh (Calm.sq Calm.body) rfl (by kernel_rfl) (Qt.bldV [.tmp 14, .tmp 20] rfl rfl (by kernel_rfl)) ?_
  refine RH.q hh (Calm.sq Calm.body) rfl (by kernel_rfl) (Qt.fld rfl) ?_
  refine RH.e0 hh rfl (by kernel_rfl) (Ef.st hS 4 rfl rfl rfl (by rfl) (by rfl) (by exact Nat.le_of_ble_eq_true rfl)) ?_
  intro _ w hS
  simp (disch := omega) only [cells_agg', Nat.zero_add, wr] at hS
  refine ⟨(by exact hS.get 5 rfl), ?_⟩
  refine RH.done hh (by kernel_rfl) ?_
  refine RL.nil ?_
  refine RE.sqN ?_
  refine RC.seq ?_
  refine RC.region rfl ?_
  refine RL.q (Qt.as rfl) ?_
  refine RL.nil ?_
  refine RE.sqN ?_
  refine RC.ret ?_
  have h1 : Sat oo w (pt b3 (.cells #[.pointer (some ⟨bf, 0, none⟩), .pointer (some ⟨bg, 0, none⟩), .int .i64 n, .int .i64 most, .int .u64 seq] 97 (0, 0)) :: qO (.pointer (some ⟨bf, 0, none⟩)) n lq :: hO (.pointer (some ⟨bg, 0, none⟩)) n lh ::
      [pt b (.cells #[.pointer (some ⟨bq, 0, none⟩), .pointer (some ⟨bh, 0, none⟩), .int .i64 n, .int .i64 most, .int .u64 seq] 97 (0, 0)), qO (.pointer (some ⟨bq, 0, none⟩)) n lq, hO (.pointer (some ⟨bh, 0, none⟩)) n lh, R]) := hS.pick [4, 2, 0, 5, 3, 1, 6] (by decide) rfl
  have h2 := sO_shut hI hs0 hs1 h1
  have h3 := sO_shut hI hs0 hs1 (h2.pick [1, 2, 3, 0, 4] (by decide) rfl)
  exact RE.retB rfl ⟨⟨b3, rfl⟩, rfl⟩ h3.swap

set_option maxHeartbeats 1000000 in
theorem rdNew (n most : Int) (h0 : 1 ≤ n) (h1 : n ≤ 1024) (h2 : 1 ≤ most) (h3 : most ≤ n) : Ct Try.prog 36 #[.int .i64 n, .int .i64 most] [] (fun v ps => (∃ b, v = .pointer (some ⟨b, 0, none⟩)) ∧ ps = [sO v n.toNat most 0 []]) := by
  refine Ct.enter Try.func36 rfl (Nat.le_of_ble_eq_true rfl) ?_
  intro oo w R hS
  change RC _ _ _ _ _ _ [(0, _), (1, _)] _
  refine RC.seq ?_
  refine RC.region rfl ?_
  refine RL.q (Qt.as rfl) ?_
  refine RL.nil ?_
  refine RE.sqN ?_
  refine RC.seq ?_
  refine RC.seq ?_
  refine RC.region rfl ?_
  refine RL.q (Qt.mv rfl) ?_
  refine RL.q (Qt.lss rfl rfl) ?_
  refine RL.q (Qt.mv rfl) ?_
  refine RLG.start 7 false rfl ?_
  refine RLG.q rfl rfl rfl (fun _ => Qt.mv rfl) ?_
  refine RLG.q rfl rfl rfl (fun hg => by (try simp only [decide_eq_false_iff_not] at hg); exact Qt.gtr rfl rfl) ?_
  refine RLG.or rfl rfl ?_
  refine RL.q (Qt.mv rfl) ?_
  refine RLG.start 11 false rfl ?_
  refine RLG.q rfl rfl rfl (fun _ => Qt.mv rfl) ?_
  refine RLG.q rfl rfl rfl (fun hg => by (try simp only [decide_eq_false_iff_not, Bool.or_eq_false_iff] at hg); exact Qt.lss rfl rfl) ?_
  refine RLG.or rfl rfl ?_
  refine RL.q (Qt.mv rfl) ?_
  refine RLG.start 15 false rfl ?_
  refine RLG.q rfl rfl rfl (fun _ => Qt.mv rfl) ?_
  refine RLG.q rfl rfl rfl (fun _ => Qt.mv rfl) ?_
  refine RLG.q rfl rfl rfl (fun hg => by (try simp only [decide_eq_false_iff_not, Bool.or_eq_false_iff] at hg); exact Qt.gtr rfl rfl) ?_
  refine RLG.or rfl rfl ?_
  refine RL.nil ?_
  refine RE.sqN ?_
  refine RC.condF rfl (by simp; omega) ?_
  refine RC.skip ?_
  refine RE.sqN ?_
  refine RC.seq ?_
  refine RC.region rfl ?_
  refine RL.q (Qt.mv rfl) ?_
  refine RL.e (Ef.call hS (bqNewR n h0 h1) rfl rfl Try.call60 [] [0] (by decide) rfl rfl) ?_
  rintro v21 w ⟨ps, ⟨⟨bf, rfl⟩, rfl⟩, hS⟩
  refine RL.q (Qt.mv rfl) ?_
  refine RL.e (Ef.call hS (phNew n h0 h1) rfl rfl Try.call61 [] [0, 1] (by decide) rfl rfl) ?_
  rintro v23 w ⟨ps, ⟨⟨bg, rfl⟩, rfl⟩, hS⟩
  refine RL.q (Qt.bldV [.tmp 21, .tmp 23] rfl rfl (by kernel_rfl)) ?_
  refine RL.q (Qt.mv rfl) ?_
  refine RL.q (Qt.mv rfl) ?_
  refine RL.q (Qt.bldV [.tmp 24, .tmp 25, .tmp 26, .const (Go.Value.int Go.IntKind.u64 0)] rfl rfl (by kernel_rfl)) ?_
  refine RL.e (Ef.box hS rfl) ?_
  rintro _ w ⟨b28, rfl, hS⟩
  try simp (disch := omega) only [cells_agg'] at hS
  refine RL.q (Qt.as rfl) ?_
  refine RL.nil ?_
  refine RE.sqN ?_
  refine RC.ret ?_
  refine RE.retB rfl ⟨⟨_, rfl⟩, rfl⟩ (sO_shut (pq := .pointer (some ⟨bf, 0, none⟩)) (ph := .pointer (some ⟨bg, 0, none⟩)) RdI.nil (Int.le_refl _) (Int.le_refl _) ?_)
  rw [Int.toNat_of_nonneg (by omega)]
  exact hS.pick [0, 2, 1, 3] (by decide) rfl
theorem rdNewN (n most : Int) (h : n < 1 ∨ n > 1024 ∨ most < 1 ∨ most > n) : Ct Try.prog 36 #[.int .i64 n, .int .i64 most] [] (fun v ps => v = .pointer none ∧ ps = []) := by
  refine Ct.enter Try.func36 rfl (Nat.le_of_ble_eq_true rfl) ?_
  intro oo w R hS
  change RC _ _ _ _ _ _ [(0, _), (1, _)] _
  refine RC.seq ?_
  refine RC.region rfl ?_
  refine RL.q (Qt.as rfl) ?_
  refine RL.nil ?_
  refine RE.sqN ?_
  refine RC.seq ?_
  refine RC.seq ?_
  refine RC.region rfl ?_
  refine RL.q (Qt.mv rfl) ?_
  refine RL.q (Qt.lss rfl rfl) ?_
  refine RL.q (Qt.mv rfl) ?_
  refine RLG.start 7 false rfl ?_
  refine RLG.q rfl rfl rfl (fun _ => Qt.mv rfl) ?_
  refine RLG.q rfl rfl rfl (fun hg => by (try simp only [decide_eq_false_iff_not] at hg); exact Qt.gtr rfl rfl) ?_
  refine RLG.or rfl rfl ?_
  refine RL.q (Qt.mv rfl) ?_
  refine RLG.start 11 false rfl ?_
  refine RLG.q rfl rfl rfl (fun _ => Qt.mv rfl) ?_
  refine RLG.q rfl rfl rfl (fun hg => by (try simp only [decide_eq_false_iff_not, Bool.or_eq_false_iff] at hg); exact Qt.lss rfl rfl) ?_
  refine RLG.or rfl rfl ?_
  refine RL.q (Qt.mv rfl) ?_
  refine RLG.start 15 false rfl ?_
  refine RLG.q rfl rfl rfl (fun _ => Qt.mv rfl) ?_
  refine RLG.q rfl rfl rfl (fun _ => Qt.mv rfl) ?_
  refine RLG.q rfl rfl rfl (fun hg => by (try simp only [decide_eq_false_iff_not, Bool.or_eq_false_iff] at hg); exact Qt.gtr rfl rfl) ?_
  refine RLG.or rfl rfl ?_
  refine RL.nil ?_
  refine RE.sqN ?_
  refine RC.condT rfl (by simp; omega) ?_
  refine RC.seq ?_
  refine RC.region rfl ?_
  refine RL.q (Qt.as rfl) ?_
  refine RL.nil ?_
  refine RE.sqN ?_
  refine RC.ret ?_
  refine RE.sqR ?_
  exact RE.retB rfl ⟨rfl, rfl⟩ hS
end Go.Proofs

/- Layer 11 itself: how it lies, may, Where, Len, is. -/
namespace Go.Proofs
open Go Go.Gx
variable {oo : World}

abbrev pF (nt : Nat) (B : Int) : Value → List KItem → HP := fun v l => sO v nt nt B l
/-- The map tells where ids stand. -/
structure AtOk (L : List (List KItem)) (es : List (Int × Value)) : Prop where
  at' : ∀ id, mget es id = (pw L id).map fun i => Value.int .i64 (i : Int)
  len : (es.length : Int) = prLen L
def pO (p : Value) (np nt : Nat) (queue B : Int) (L : List (List KItem)) : HP := fun F => ∃ x : (Nat × Nat × Value) × (List Value × List (Int × Value)), (p = .pointer (some ⟨x.1.1, 0, none⟩) ∧ PrOk np nt L ∧ x.2.1.length = L.length ∧ AtOk L x.2.2 ∧ (1 ≤ np ∧ np ≤ 64) ∧ 1 ≤ nt ∧ nt ≤ 1024) ∧
  Star [pt x.1.1 (.cells #[.int .i64 np, .int .i64 nt, .int .i64 queue, x.1.2.2, .map (some x.1.2.1)] 69 (0, 0)), own x.1.2.2 70 1 L.length x.2.1, Objs (pF nt B) x.2.1 L, mapP x.1.2.1 .i64 x.2.2] F
theorem pO_open {w : World} {M : List HP} {p : Value} {np nt : Nat} {queue B : Int} {L : List (List KItem)} (h : Sat oo w (pO p np nt queue B L :: M)) :
    ∃ b r sp cap vs es, p = .pointer (some ⟨b, 0, none⟩) ∧ PrOk np nt L ∧ vs.length = L.length ∧ AtOk L es ∧ (1 ≤ np ∧ np ≤ 64) ∧ (1 ≤ nt ∧ nt ≤ 1024) ∧
      Sat oo w (pt b (.cells #[.int .i64 np, .int .i64 nt, .int .i64 queue, .slice sp L.length cap, .map (some r)] 69 (0, 0)) :: own (.slice sp L.length cap) 70 1 L.length vs :: Objs (pF nt B) vs L :: mapP r .i64 es :: M) := by
  obtain ⟨⟨⟨b, r, s⟩, vs, es⟩, h⟩ := h.ex (α := (Nat × Nat × Value) × (List Value × List (Int × Value))) 0 rfl (q := fun x F => (p = .pointer (some ⟨x.1.1, 0, none⟩) ∧ PrOk np nt L ∧ x.2.1.length = L.length ∧ AtOk L x.2.2 ∧ (1 ≤ np ∧ np ≤ 64) ∧ 1 ≤ nt ∧ nt ≤ 1024) ∧
    Star [pt x.1.1 (.cells #[.int .i64 np, .int .i64 nt, .int .i64 queue, x.1.2.2, .map (some x.1.2.1)] 69 (0, 0)), own x.1.2.2 70 1 L.length x.2.1, Objs (pF nt B) x.2.1 L, mapP x.1.2.1 .i64 x.2.2] F) (fun F ⟨x, h⟩ => ⟨x, h⟩)
  obtain ⟨h1, h2, h3, h4, h5, h6⟩ := h.fact 0 rfl (fun F hF => hF.1)
  have h7 := (h.imp 0 rfl (fun F hF => hF.2)).unstar
  obtain ⟨sp, cap, e⟩ := h7.ownForm 1 rfl
  dsimp only at e
  subst e
  exact ⟨b, r, sp, cap, vs, es, h1, h2, h3, h4, h5, h6, h7⟩
theorem pO_shut {w : World} {M : List HP} {b r np nt : Nat} {queue B : Int} {L : List (List KItem)} {s : Value} {vs : List Value} {es : List (Int × Value)} (hp : PrOk np nt L) (hv : vs.length = L.length) (ha : AtOk L es) (h1 : 1 ≤ np ∧ np ≤ 64) (h2 : 1 ≤ nt ∧ nt ≤ 1024)
    (h : Sat oo w (pt b (.cells #[.int .i64 np, .int .i64 nt, .int .i64 queue, s, .map (some r)] 69 (0, 0)) :: own s 70 1 L.length vs :: Objs (pF nt B) vs L :: mapP r .i64 es :: M)) : Sat oo w (pO (.pointer (some ⟨b, 0, none⟩)) np nt queue B L :: M) := by
  have h3 := Sat.star (B := [pt b (.cells #[.int .i64 np, .int .i64 nt, .int .i64 queue, s, .map (some r)] 69 (0, 0)), own s 70 1 L.length vs, Objs (pF nt B) vs L, mapP r .i64 es]) (L := M) h
  exact h3.imp 0 rfl (fun F hF => ⟨⟨⟨b, r, s⟩, vs, es⟩, ⟨rfl, hp, hv, ha, h1, h2⟩, hF⟩)
theorem AtOk.get {L : List (List KItem)} {es : List (Int × Value)} (h : AtOk L es) (id : Int) : (mget es id).getD (.int .i64 0) = .int .i64 (pwAt L id) ∧ (mget es id).isSome = pwOk L id := by
  rw [h.at', pwAt, pwOk]
  cases pw L id <;> exact ⟨rfl, rfl⟩

set_option maxHeartbeats 2000000 in
theorem prWhere (p : Value) (np nt : Nat) (queue B : Int) (L : List (List KItem)) (id : Int) : Ct Try.prog 24 #[p, .int .i64 id] [pO p np nt queue B L] (fun v ps => v = .tuple #[.int .i64 (pwAt L id), .bool (pwOk L id)] ∧ ps = [pO p np nt queue B L]) := by
  refine Ct.enter Try.func24 rfl (Nat.le_of_ble_eq_true rfl) ?_
  intro oo w R hS
  change RC _ _ _ _ _ _ [(0, _), (1, _)] _
  obtain ⟨b, r, sp, cap, vs, es, rfl, hp, hv, ha, hnp, hnt, hS⟩ := pO_open hS
  obtain ⟨ent, clock, hmi, hS⟩ := hS.mapOpen 3 rfl
  obtain ⟨g1, g2⟩ := ha.get id
  refine RC.seq ?_
  refine RC.region rfl ?_
  refine RL.q (Qt.as rfl) ?_
  refine RL.q (Qt.as rfl) ?_
  refine RL.nil ?_
  refine RE.sqN ?_
  refine RC.seq ?_
  refine RC.seq ?_
  refine RC.region rfl ?_
  refine RL.q (Qt.mv rfl) ?_
  refine RL.q (Qt.eqlN rfl rfl) ?_
  refine RL.nil ?_
  refine RE.sqN ?_
  refine RC.condF rfl (rfl) ?_
  refine RC.skip ?_
  refine RE.sqN ?_
  refine RC.seq ?_
  refine RC.region rfl ?_
  refine RL.q (Qt.mv rfl) ?_
  refine RL.q (Qt.nil rfl) ?_
  refine RL.q (Qt.fld rfl) ?_
  refine RL.q (Qt.ld rfl (by exact hS.at 0 rfl) (by first  | rfl)) ?_
  refine RL.q (Qt.mv rfl) ?_
  refine RL.q (Qt.lkT rfl rfl (by exact hS.at 3 rfl) (hmi)) ?_
  refine RL.q (Qt.mv rfl) ?_
  refine RL.q (Qt.ext rfl rfl) ?_
  refine RL.q (Qt.ext rfl rfl) ?_
  refine RL.q (Qt.as rfl) ?_
  refine RL.q (Qt.as rfl) ?_
  refine RL.nil ?_
  refine RE.sqN ?_
  refine RC.seq ?_
  refine RC.region rfl ?_
  refine RL.q (Qt.mv rfl) ?_
  refine RL.q (Qt.mv rfl) ?_
  refine RL.q (Qt.as rfl) ?_
  refine RL.q (Qt.as rfl) ?_
  refine RL.nil ?_
  refine RE.sqN ?_
  refine RC.ret ?_
  have hS := hS.mapShut 3 rfl hmi
  refine RE.retB rfl ⟨?_, rfl⟩ (pO_shut hp hv ha hnp hnt hS)
  simp only [oneOf]
  rw [g1, g2]

set_option maxHeartbeats 2000000 in
theorem prLenC (p : Value) (np nt : Nat) (queue B : Int) (L : List (List KItem)) : Ct Try.prog 21 #[p] [pO p np nt queue B L] (fun v ps => v = .int .i64 (prLen L) ∧ ps = [pO p np nt queue B L]) := by
  refine Ct.enter Try.func21 rfl (Nat.le_of_ble_eq_true rfl) ?_
  intro oo w R hS
  change RC _ _ _ _ _ _ [(0, _)] _
  obtain ⟨b, r, sp, cap, vs, es, rfl, hp, hv, ha, hnp, hnt, hS⟩ := pO_open hS
  obtain ⟨ent, clock, hmi, hS⟩ := hS.mapOpen 3 rfl
  refine RC.seq ?_
  refine RC.region rfl ?_
  refine RL.q (Qt.as rfl) ?_
  refine RL.nil ?_
  refine RE.sqN ?_
  refine RC.seq ?_
  refine RC.seq ?_
  refine RC.region rfl ?_
  refine RL.q (Qt.mv rfl) ?_
  refine RL.q (Qt.eqlN rfl rfl) ?_
  refine RL.nil ?_
  refine RE.sqN ?_
  refine RC.condF rfl (rfl) ?_
  refine RC.skip ?_
  refine RE.sqN ?_
  refine RC.seq ?_
  refine RC.region rfl ?_
  refine RL.q (Qt.mv rfl) ?_
  refine RL.q (Qt.nil rfl) ?_
  refine RL.q (Qt.fld rfl) ?_
  refine RL.q (Qt.ld rfl (by exact hS.at 0 rfl) (by first  | rfl)) ?_
  refine RL.q (Qt.lenM rfl (by exact hS.at 3 rfl) (hmi)) ?_
  refine RL.q (Qt.as rfl) ?_
  refine RL.nil ?_
  refine RE.sqN ?_
  refine RC.ret ?_
  have hS := hS.mapShut 3 rfl hmi
  refine RE.retB rfl ⟨?_, rfl⟩ (pO_shut hp hv ha hnp hnt hS)
  simp only [oneOf]
  rw [ha.len]

set_option maxHeartbeats 2000000 in
theorem prIsC (p : Value) (np nt : Nat) (queue B : Int) (L : List (List KItem)) (proc : Int) : Ct Try.prog 38 #[p, .int .i64 proc] [pO p np nt queue B L] (fun v ps => v = .bool (prIs np proc) ∧ ps = [pO p np nt queue B L]) := by
  refine Ct.enter Try.func38 rfl (Nat.le_of_ble_eq_true rfl) ?_
  intro oo w R hS
  change RC _ _ _ _ _ _ [(0, _), (1, _)] _
  obtain ⟨b, r, sp, cap, vs, es, rfl, hp, hv, ha, hnp, hnt, hS⟩ := pO_open hS
  refine RC.seq ?_
  refine RC.region rfl ?_
  refine RL.q (Qt.as rfl) ?_
  refine RL.nil ?_
  refine RE.sqN ?_
  refine RC.seq ?_
  refine RC.region rfl ?_
  refine RL.q (Qt.mv rfl) ?_
  refine RL.q (Qt.neqN rfl rfl) ?_
  refine RL.q (Qt.mv rfl) ?_
  refine RLG.start 7 true rfl ?_
  refine RLG.q rfl rfl rfl (fun _ => Qt.mv rfl) ?_
  refine RLG.q rfl rfl rfl (fun hg => by (try simp only [Option.isSome_some] at hg); exact Qt.geq rfl rfl) ?_
  refine RLG.and rfl rfl ?_
  refine RL.q (Qt.mv rfl) ?_
  refine RLG.start 11 true rfl ?_
  refine RLG.q rfl rfl rfl (fun _ => Qt.mv rfl) ?_
  refine RLG.q rfl rfl rfl (fun _ => Qt.mv rfl) ?_
  refine RLG.q rfl rfl rfl (fun _ => Qt.nil rfl) ?_
  refine RLG.q rfl rfl rfl (fun _ => Qt.fld rfl) ?_
  refine RLG.q rfl rfl rfl (fun hg => by (try simp only [decide_eq_true_eq, Bool.and_eq_true, Option.isSome_some] at hg); exact Qt.ld rfl (by exact hS.at 0 rfl) (by first  | rfl)) ?_
  refine RLG.q rfl rfl rfl (fun hg => by (try simp only [decide_eq_true_eq, Bool.and_eq_true, Option.isSome_some] at hg); exact Qt.lss rfl rfl) ?_
  refine RLG.and rfl rfl ?_
  refine RL.q (Qt.as rfl) ?_
  refine RL.nil ?_
  refine RE.sqN ?_
  refine RC.ret ?_
  refine RE.retB rfl ⟨?_, rfl⟩ (pO_shut hp hv ha hnp hnt hS)
  simp [oneOf, prIs]
end Go.Proofs

/- Layer 11 itself: may, List, Change. -/
namespace Go.Proofs
open Go Go.Gx
variable {oo : World}

set_option maxHeartbeats 2000000 in
theorem prMay (p : Value) (np nt : Nat) (queue B : Int) (L : List (List KItem)) (id : Int) (rt t : Bool) : Ct Try.prog 37 #[p, .int .i64 id, .bool rt, .bool t] [pO p np nt queue B L] (fun v ps => v = .int .i64 (prErr L nt id rt t) ∧ ps = [pO p np nt queue B L]) := by
  refine Ct.enter Try.func37 rfl (Nat.le_of_ble_eq_true rfl) ?_
  intro oo w R hS
  change RC _ _ _ _ _ _ [(0, _), (1, _), (2, _), (3, _)] _
  obtain ⟨b, r, sp, cap, vs, es, rfl, hp, hv, ha, hnp, hnt, hS⟩ := pO_open hS
  obtain ⟨ent, clock, hmi, hS⟩ := hS.mapOpen 3 rfl
  obtain ⟨g1, g2⟩ := ha.get id
  refine RC.seq ?_
  refine RC.region rfl ?_
  refine RL.q (Qt.as rfl) ?_
  refine RL.nil ?_
  refine RE.sqN ?_
  refine RC.seq ?_
  refine RC.block ?_
  refine RC.seq ?_
  refine RC.region rfl ?_
  refine RL.q (Qt.mv rfl) ?_
  refine RL.q (Qt.eqlN rfl rfl) ?_
  refine RL.q (Qt.as rfl) ?_
  refine RL.nil ?_
  refine RE.sqN ?_
  refine RC.condF rfl (rfl) ?_
  refine RC.seq ?_
  refine RC.region rfl ?_
  refine RL.q (Qt.mv rfl) ?_
  refine RL.q (Qt.lss rfl rfl) ?_
  refine RL.q (Qt.mv rfl) ?_
  refine RLG.start 17 false rfl ?_
  refine RLG.q rfl rfl rfl (fun _ => Qt.mv rfl) ?_
  refine RLG.q rfl rfl rfl (fun _ => Qt.mv rfl) ?_
  refine RLG.q rfl rfl rfl (fun _ => Qt.nil rfl) ?_
  refine RLG.q rfl rfl rfl (fun _ => Qt.fld rfl) ?_
  refine RLG.q rfl rfl rfl (fun hg => by (try simp only [decide_eq_false_iff_not] at hg); exact Qt.ld rfl (by exact hS.at 0 rfl) (by first  | rfl)) ?_
  refine RLG.q rfl rfl rfl (fun hg => by (try simp only [decide_eq_false_iff_not] at hg); exact Qt.geq rfl rfl) ?_
  refine RLG.or rfl rfl ?_
  refine RL.q (Qt.mv rfl) ?_
  refine RLG.start 25 false rfl ?_
  refine RLG.q rfl rfl rfl (fun _ => Qt.mv rfl) ?_
  refine RLG.q rfl rfl rfl (fun _ => Qt.not rfl) ?_
  refine RLG.or rfl rfl ?_
  refine RL.q (Qt.as rfl) ?_
  refine RL.nil ?_
  refine RE.sqN ?_
  refine RC.cond rfl (fun h => ?_) (fun h => ?_)
  · refine RC.seq ?_
    refine RC.region rfl ?_
    refine RL.q (Qt.as rfl) ?_
    refine RL.nil ?_
    refine RE.sqN ?_
    refine RC.ret ?_
    refine RE.bkR ?_
    refine RE.sqR ?_
    have h : id < 0 ∨ id ≥ nt ∨ rt = false := by simpa [or_assoc] using h
    exact RE.retB rfl ⟨by rw [prErr_range h]; rfl, rfl⟩ (pO_shut hp hv ha hnp hnt (hS.mapShut 3 rfl hmi))
  · skip
    have h : ¬ (id < 0 ∨ id ≥ nt ∨ rt = false) := by
      simp at h ⊢
      exact ⟨h.1.1, h.1.2, h.2⟩
    refine RC.skip ?_
    refine RE.bkN ?_
    refine RE.sqN ?_
    refine RC.seq ?_
    refine RC.region rfl ?_
    refine RL.q (Qt.mv rfl) ?_
    refine RL.q (Qt.nil rfl) ?_
    refine RL.q (Qt.fld rfl) ?_
    refine RL.q (Qt.ld rfl (by exact hS.at 0 rfl) (by first  | rfl)) ?_
    refine RL.q (Qt.mv rfl) ?_
    refine RL.q (Qt.lkT rfl rfl (by exact hS.at 3 rfl) (hmi)) ?_
    refine RL.q (Qt.mv rfl) ?_
    refine RL.q (Qt.ext rfl rfl) ?_
    refine RL.q (Qt.ext rfl rfl) ?_
    refine RL.q (Qt.as rfl) ?_
    refine RL.q (Qt.as rfl) ?_
    refine RL.nil ?_
    refine RE.sqN ?_
    refine RC.seq ?_
    refine RC.block ?_
    refine RC.seq ?_
    refine RC.region rfl ?_
    refine RL.q (Qt.mv rfl) ?_
    refine RL.q (Qt.mv rfl) ?_
    refine RLG.start 40 true rfl ?_
    refine RLG.q rfl rfl rfl (fun _ => Qt.mv rfl) ?_
    refine RLG.q rfl rfl rfl (fun _ => Qt.not rfl) ?_
    refine RLG.and rfl rfl ?_
    refine RL.q (Qt.as rfl) ?_
    refine RL.nil ?_
    refine RE.sqN ?_
    have hS := pO_shut hp hv ha hnp hnt (hS.mapShut 3 rfl hmi)
    rw [g2]
    refine RC.cond rfl (fun h2 => ?_) (fun h2 => ?_)
    · refine RC.seq ?_
      refine RC.region rfl ?_
      refine RL.q (Qt.as rfl) ?_
      refine RL.nil ?_
      refine RE.sqN ?_
      refine RC.ret ?_
      refine RE.bkR ?_
      refine RE.sqR ?_
      have h2 : t = true ∧ pwOk L id = false := by simpa using h2
      obtain ⟨ht, h5⟩ := h2
      subst ht
      exact RE.retB rfl ⟨by rw [prErr_none h h5]; rfl, rfl⟩ hS
    · skip
      refine RC.seq ?_
      refine RC.region rfl ?_
      refine RL.q (Qt.mv rfl) ?_
      refine RL.q (Qt.not rfl) ?_
      refine RL.q (Qt.mv rfl) ?_
      refine RLG.start 47 true rfl ?_
      refine RLG.q rfl rfl rfl (fun _ => Qt.mv rfl) ?_
      refine RLG.and rfl rfl ?_
      refine RL.q (Qt.as rfl) ?_
      refine RL.nil ?_
      refine RE.sqN ?_
      refine RC.cond rfl (fun h3 => ?_) (fun h3 => ?_)
      · refine RC.seq ?_
        refine RC.region rfl ?_
        refine RL.q (Qt.as rfl) ?_
        refine RL.nil ?_
        refine RE.sqN ?_
        refine RC.ret ?_
        refine RE.bkR ?_
        refine RE.sqR ?_
        have h3 : t = false ∧ pwOk L id = true := by simpa using h3
        obtain ⟨ht, h5⟩ := h3
        subst ht
        exact RE.retB rfl ⟨by rw [prErr_known h h5]; rfl, rfl⟩ hS
      · refine RC.skip ?_
        refine RE.bkN ?_
        refine RE.sqN ?_
        refine RC.seq ?_
        refine RC.region rfl ?_
        refine RL.q (Qt.as rfl) ?_
        refine RL.nil ?_
        refine RE.sqN ?_
        refine RC.ret ?_
        have h2 : t = true → pwOk L id = true := by simpa using h2
        have h3 : t = false → pwOk L id = false := by simpa using h3
        have he : prErr L nt id rt t = 0 := by
          cases t with
          | true => exact prErr_ok1 h (h2 rfl)
          | false => exact prErr_ok0 h (h3 rfl)
        exact RE.retB rfl ⟨by rw [he]; rfl, rfl⟩ hS

set_option maxHeartbeats 2000000 in
theorem prListC (p : Value) (np nt : Nat) (queue B : Int) (L : List (List KItem)) (a : Int) : Ct Try.prog 27 #[p, .int .i64 a] [pO p np nt queue B L] (fun v ps => ps = [ownI v (prList L np a), pO p np nt queue B L]) := by
  refine Ct.enter Try.func27 rfl (Nat.le_of_ble_eq_true rfl) ?_
  intro oo w R hS
  change RC _ _ _ _ _ _ [(0, _), (1, _)] _
  obtain ⟨b, r, sp, cap, vs, es, rfl, hp, hv, ha, hnp, hnt, hS⟩ := pO_open hS
  have hlen := hp.len
  refine RC.seq ?_
  refine RC.region rfl ?_
  refine RL.q (Qt.as rfl) ?_
  refine RL.nil ?_
  refine RE.sqN ?_
  refine RC.seq ?_
  refine RC.seq ?_
  refine RC.region rfl ?_
  refine RL.q (Qt.mv rfl) ?_
  refine RL.q (Qt.eqlN rfl rfl) ?_
  refine RL.q (Qt.mv rfl) ?_
  refine RLG.start 7 false rfl ?_
  refine RLG.q rfl rfl rfl (fun _ => Qt.mv rfl) ?_
  refine RLG.q rfl rfl rfl (fun hg => by (try simp only [Option.isNone_some] at hg); exact Qt.lss rfl rfl) ?_
  refine RLG.or rfl rfl ?_
  refine RL.q (Qt.mv rfl) ?_
  refine RLG.start 11 false rfl ?_
  refine RLG.q rfl rfl rfl (fun _ => Qt.mv rfl) ?_
  refine RLG.q rfl rfl rfl (fun _ => Qt.mv rfl) ?_
  refine RLG.q rfl rfl rfl (fun _ => Qt.nil rfl) ?_
  refine RLG.q rfl rfl rfl (fun _ => Qt.fld rfl) ?_
  refine RLG.q rfl rfl rfl (fun hg => by (try simp only [decide_eq_false_iff_not, Bool.or_eq_false_iff, Option.isNone_some] at hg); exact Qt.ld rfl (by exact hS.at 0 rfl) (by first  | rfl)) ?_
  refine RLG.q rfl rfl rfl (fun _ => Qt.lenS rfl) ?_
  refine RLG.q rfl rfl rfl (fun hg => by (try simp only [decide_eq_false_iff_not, Bool.or_eq_false_iff, Option.isNone_some] at hg); exact Qt.geq rfl rfl) ?_
  refine RLG.or rfl rfl ?_
  refine RL.nil ?_
  refine RE.sqN ?_
  refine RC.cond rfl (fun h => ?_) (fun h => ?_)
  · refine RC.seq ?_
    refine RC.region rfl ?_
    refine RL.q (Qt.as rfl) ?_
    refine RL.nil ?_
    refine RE.sqN ?_
    refine RC.ret ?_
    refine RE.sqR ?_
    have h : a < 0 ∨ a ≥ L.length := by simpa using h
    have e : prList L np a = [] := if_pos (by omega)
    have hS := hS.nilOwn (T := 3) (sz := 1)
    refine RE.retB rfl (ps := [ownI (.slice none 0 0) (prList L np a), pO _ np nt queue B L]) rfl ?_
    rw [e]
    exact (pO_shut hp hv ha hnp hnt (hS.pick [1, 2, 3, 4, 0, 5] (by decide) rfl)).pick [1, 0, 2] (by decide) rfl
  · skip
    have h : ¬ (a < 0 ∨ a ≥ L.length) := by simpa using h
    have hlt : a.toNat < L.length := by omega
    have hltv : a.toNat < vs.length := by omega
    have e : prList L np a = kIds L[a.toNat] := by rw [prList, if_neg (by omega), getD_at hlt]
    obtain ⟨bs, cap', c, hv', hc1, hc2, hc3, hc4, hS⟩ := hS.ownPos 1 rfl (by omega)
    cases hv'
    have hS := Sat.objOut (f := pF nt B) hv hlt (hS.pick [2, 0, 1, 3, 4] (by decide) rfl)
    refine RC.skip ?_
    refine RE.sqN ?_
    refine RC.seq ?_
    refine RC.region rfl ?_
    refine RL.q (Qt.mv rfl) ?_
    refine RL.q (Qt.nil rfl) ?_
    refine RL.q (Qt.fld rfl) ?_
    refine RL.q (Qt.ld rfl (by exact hS.at 2 rfl) (by rfl)) ?_
    refine RL.q (Qt.mv rfl) ?_
    refine RL.q (Qt.ixS rfl rfl (by omega) (by omega)) ?_
    refine RL.q (Qt.ld rfl (by exact hS.at 3 rfl) (by exact ptr_cell hc4 hltv (by omega))) ?_
    refine RL.e (Ef.call hS (rdList vs[a.toNat] nt nt B L[a.toNat]) rfl rfl Try.call47 [0] [1, 2, 3, 4, 5] (by decide) rfl rfl) ?_
    rintro v27 w ⟨ps, rfl, hS⟩
    refine RL.q (Qt.as rfl) ?_
    refine RL.nil ?_
    refine RE.sqN ?_
    refine RC.ret ?_
    have hS := Sat.objIn (f := pF nt B) hv hlt (y := L[a.toNat]) (hS.pick [1, 2, 3, 4, 5, 0, 6] (by decide) rfl)
    rw [set_same hlt] at hS
    have hS := (hS.pick [1, 2, 0, 3, 4, 5] (by decide) rfl).ownMk (cap := cap) (n := L.length) (sz := 1) (cs := vs) 1 rfl hc1 hc2 hc3 hc4
    refine RE.retB rfl (ps := [ownI v27 (prList L np a), pO _ np nt queue B L]) rfl ?_
    rw [e]
    exact (pO_shut hp hv ha hnp hnt hS).pick [1, 0, 2] (by decide) rfl

theorem Star_imp {ps ps' : List HP} (hl : ps'.length = ps.length) (h : ∀ (i : Nat) (p p' : HP), ps[i]? = some p → ps'[i]? = some p' → ∀ F, p F → p' F) {F : Frag} (hS : Star ps F) : Star ps' F := by
  obtain ⟨G, h1, h2⟩ := hS
  refine ⟨G, fun i p' hp' => ?_, by rw [h2, hl]⟩
  have hi : i < ps.length := by
    have := (List.getElem?_eq_some_iff.1 hp').1
    omega
  exact h i _ p' (List.getElem?_eq_getElem hi) hp' (G i) (h1 i _ (List.getElem?_eq_getElem hi))
theorem sO_le {p : Value} {n : Nat} {most B B' : Int} {l : List KItem} (hB : B ≤ B') {F : Frag} (h : sO p n most B l F) : sO p n most B' l F := by
  obtain ⟨x, ⟨h1, h2, h3, h4⟩, h5⟩ := h
  exact ⟨x, ⟨h1, h2, h3, by omega⟩, h5⟩
theorem Sat.objMono {w : World} {M : List HP} {nt : Nat} {B B' : Int} (hB : B ≤ B') {vs : List Value} {xs : List (List KItem)} (hS : Sat oo w (Objs (pF nt B) vs xs :: M)) : Sat oo w (Objs (pF nt B') vs xs :: M) := by
  refine hS.imp 0 rfl (fun F hF => ?_)
  unfold Objs at hF ⊢
  refine Star_imp (by simp [objs]) (fun i p p' h1 h2 F hF => ?_) hF
  simp only [objs, List.getElem?_map, Option.map_eq_some_iff] at h1 h2
  obtain ⟨q, hq, rfl⟩ := h1
  obtain ⟨q', hq', rfl⟩ := h2
  rw [hq] at hq'
  injection hq' with e
  subst e
  exact sO_le hB hF
theorem pO_mono {w : World} {M : List HP} {p : Value} {np nt : Nat} {queue B B' : Int} {L : List (List KItem)} (hB : B ≤ B') (h : Sat oo w (pO p np nt queue B L :: M)) : Sat oo w (pO p np nt queue B' L :: M) := by
  obtain ⟨b, r, sp, cap, vs, es, rfl, hp, hv, ha, hnp, hnt, hS⟩ := pO_open h
  have h1 := Sat.rot (A := [_, _]) (B := Objs (pF nt B) vs L :: mapP r .i64 es :: M) hS
  have h2 := Sat.rot (A := Objs (pF nt B') vs L :: mapP r .i64 es :: M) (B := [_, _]) (Sat.objMono hB h1)
  exact pO_shut hp hv ha hnp hnt h2
end Go.Proofs

/- The map of places under Put, Change, Remove. No program stands here. -/
namespace Go.Proofs
open Go Go.Gx
variable {np nt : Nat} {L : List (List KItem)}

theorem pw_congr {L' : List (List KItem)} (hp' : PrOk np nt L') {a : Int} (hl : L'.length = L.length) (h : ∀ (i : Nat) (hi : i < L.length) (hi' : i < L'.length), a ∈ kIds L'[i] ↔ a ∈ kIds L[i]) : pw L' a = pw L a := by
  rcases pw_spec L a with ⟨h1, h2⟩ | ⟨i, hi, h1, h2, _⟩
  · rw [h1]
    rcases pw_spec L' a with ⟨g1, _⟩ | ⟨j, hj, g1, g2, _⟩
    · exact g1
    · exact absurd ((h j (by omega) hj).1 g2) (h2 _ (List.getElem_mem _))
  · rw [h1]
    exact hp'.pw_some (by omega) ((h i hi (by omega)).2 h2)
theorem prLen_append (A B : List (List KItem)) : prLen (A ++ B) = prLen A + prLen B := by
  unfold prLen
  rw [List.map_append, List.sum_append]
theorem prLen_cons (l : List KItem) (B : List (List KItem)) : prLen (l :: B) = l.length + prLen B := by simp [prLen]
theorem prLen_set {i : Nat} (hi : i < L.length) (l : List KItem) : prLen (L.set i l) = prLen L + l.length - L[i].length := by
  have e : L = L.take i ++ L[i] :: L.drop (i + 1) := by rw [← List.drop_eq_getElem_cons hi, List.take_append_drop]
  have h1 : prLen L = prLen (L.take i) + (L[i].length + prLen (L.drop (i + 1))) := by
    have := congrArg prLen e
    rw [prLen_append, prLen_cons] at this
    exact this
  rw [List.set_eq_take_append_cons_drop, if_pos hi, prLen_append, prLen_cons, h1]
  omega
theorem kChg_mem {l : List KItem} {n : Nat} (hn : (kIds l).Nodup) {id : Int} {k : KKey} {a : Int} : a ∈ kIds (kChg l n id k) ↔ a ∈ kIds l := by
  refine ⟨kChg_ids hn, fun h => ?_⟩
  unfold kChg
  split
  · obtain ⟨y, hy, rfl⟩ := List.mem_map.1 h
    by_cases e : y.id = id
    · exact List.mem_map.2 ⟨⟨id, k⟩, (kput_perm _ _).mem_iff.2 (by simp), e.symm⟩
    · exact List.mem_map.2 ⟨y, (kput_perm _ _).mem_iff.2 (List.mem_cons_of_mem _ (mem_kout.2 ⟨hy, e⟩)), rfl⟩
  · exact h
theorem kChg_len {l : List KItem} {n : Nat} (hn : (kIds l).Nodup) (id : Int) (k : KKey) : (kChg l n id k).length = l.length := by
  unfold kChg
  split
  · rename_i he
    obtain ⟨_, _, hm⟩ := kErr_is1 he.1
    have := kout_len hn hm
    rw [kput_len]; omega
  · rfl
/-- A change in one place that leaves the ids as they are. -/
theorem AtOk.same {es : List (Int × Value)} (h : AtOk L es) {i : Nat} (hi : i < L.length) {l : List KItem} (hp' : PrOk np nt (L.set i l)) (hm : ∀ a, a ∈ kIds l ↔ a ∈ kIds L[i]) (hl : l.length = L[i].length) : AtOk (L.set i l) es := by
  refine ⟨fun a => ?_, ?_⟩
  · rw [h.at', pw_congr (L := L) (L' := L.set i l) hp' (List.length_set ..) fun j hj hj' => ?_]
    rw [List.getElem_set]
    split
    · subst_vars; exact hm a
    · exact Iff.rfl
  · rw [h.len, prLen_set hi, hl]; omega
theorem mset_len {es : List (Int × Value)} {i : Int} {v : Value} (h : i ∉ mkeys es) : (mset es i v).length = es.length + 1 := by
  rw [mset, if_neg h, List.length_append]; rfl
/-- One id more, in one place. -/
theorem AtOk.more {es : List (Int × Value)} (h : AtOk L es) {i : Nat} (hi : i < L.length) {x : KItem} (hp' : PrOk np nt (L.set i (kput x L[i]))) (hno : ∀ l ∈ L, x.id ∉ kIds l) : AtOk (L.set i (kput x L[i])) (mset es x.id (.int .i64 i)) := by
  have hids : ∀ a, a ∈ kIds (kput x L[i]) ↔ a = x.id ∨ a ∈ kIds L[i] := fun a => by
    have := ((kput_perm x L[i]).map KItem.id).mem_iff (a := a)
    simpa [kIds] using this
  refine ⟨fun a => ?_, ?_⟩
  · rw [mget_mset]
    by_cases e : a = x.id
    · subst e
      rw [if_pos rfl, hp'.pw_some (i := i) (by rw [List.length_set]; exact hi) (by rw [List.getElem_set_self]; exact (hids _).2 (.inl rfl))]; rfl
    · rw [if_neg e, h.at', pw_congr (L := L) (L' := L.set i (kput x L[i])) hp' (List.length_set ..) fun j hj hj' => ?_]
      rw [List.getElem_set]
      split
      · subst_vars; rw [hids]; simp [e]
      · exact Iff.rfl
  · have hk : x.id ∉ mkeys es := by
      rw [← mget_none, h.at']
      rcases pw_spec L x.id with ⟨h1, _⟩ | ⟨j, hj, _, h2, _⟩
      · rw [h1]; rfl
      · exact absurd h2 (hno _ (List.getElem_mem hj))
    rw [mset_len hk, prLen_set hi, kput_len]
    have := h.len
    omega
end Go.Proofs

/- Layer 11 itself: Change. -/
namespace Go.Gx
open Go
theorem Qt.lkV {P : Program} {S : World → Prop} {E : Env} {dst : Option Nat} {ty : TypeId} {pos : String} {af : Array Edge} {g : Option (Nat × Bool)} {t kt et n nk r : Nat} {x y : Operand} {i : Int} {v : Value} {ent : Array MapEntry} {clock : Nat} {k : IntKind} {es : List (Int × Value)} [hm : TI P t (.map kt et) n] [hk : TI P kt (.int k) nk] {zv : Value} [hz : TZ P et zv] (hx : ev E x = some (.map (some r))) (hy : ev E y = some (.int k i)) (hw : ∀ w, S w → w.heap[r]? = some (.map ent clock)) (hi : MI ent clock k es) (hv : (mget es i).getD zv = v) :
    Qt P S E ⟨dst, .lookup t x y false, ty, pos, af, g⟩ v := by
  subst hv
  exact Qt.lk hx hy hw hi
end Go.Gx
namespace Go.Proofs
open Go Go.Gx
variable {oo : World}

theorem objs_mono {nt : Nat} {B B' : Int} (hB : B ≤ B') {vs : List Value} {xs : List (List KItem)} (m : Nat) (q q' : HP) (h1 : (objs (pF nt B) vs xs)[m]? = some q) (h2 : (objs (pF nt B') vs xs)[m]? = some q') : ∀ F, q F → q' F := fun F hF => by
  simp only [objs, List.getElem?_map, Option.map_eq_some_iff] at h1 h2
  obtain ⟨a, ha, rfl⟩ := h1
  obtain ⟨a', ha', rfl⟩ := h2
  rw [ha] at ha'
  injection ha' with e
  subst e
  exact sO_le hB hF
theorem but_mono {nt : Nat} {B B' : Int} (hB : B ≤ B') {vs : List Value} {xs : List (List KItem)} {i : Nat} {F : Frag} (h : ObjsBut (pF nt B) vs xs i F) : ObjsBut (pF nt B') vs xs i F := by
  unfold ObjsBut at h ⊢
  refine Star_imp (ps := [Star ((objs (pF nt B) vs xs).take i), Star ((objs (pF nt B) vs xs).drop (i + 1))]) (by rfl) (fun j p p' h1 h2 F hF => ?_) h
  match j with
  | 0 =>
    cases h1; cases h2
    refine Star_imp (ps := (objs (pF nt B) vs xs).take i) (by simp [objs]) (fun m q q' g1 g2 => ?_) hF
    rw [List.getElem?_take] at g1 g2
    split at g1
    · rw [if_pos (by assumption)] at g2
      exact objs_mono hB m q q' g1 g2
    · cases g1
  | 1 =>
    cases h1; cases h2
    refine Star_imp (ps := (objs (pF nt B) vs xs).drop (i + 1)) (by simp [objs]) (fun m q q' g1 g2 => ?_) hF
    rw [List.getElem?_drop] at g1 g2
    exact objs_mono hB _ q q' g1 g2
  | j + 2 => simp at h1

set_option maxHeartbeats 4000000 in
theorem prChange (p : Value) (np nt : Nat) (queue B : Int) (L : List (List KItem)) (id : Int) (k : KKey) (ho : k.ok) (hB : B + 1 ≤ 18446744073709551615) : Ct Try.prog 32 #[p, .int .i64 id, .agg k.cells.toArray] [pO p np nt queue B L] (fun v ps => v = .int .i64 (prErr L nt id (kRight k) true) ∧ ps = [pO p np nt queue (B + 1) (prChg L nt id k)]) := by
  refine Ct.enter Try.func32 rfl (Nat.le_of_ble_eq_true rfl) ?_
  intro oo w R hS
  change RC _ _ _ _ _ _ [(0, _), (1, _), (2, _)] _
  have hkx : k.cells.toArray.extract 0 (0 + 3) = k.cells.toArray := rfl
  refine RC.seq ?_
  refine RC.region rfl ?_
  refine RL.e (Ef.box hS rfl) ?_
  rintro _ w ⟨b5, rfl, hS⟩
  try simp (disch := omega) only [cells_agg'] at hS
  refine RL.q (Qt.as rfl) ?_
  refine RL.nil ?_
  refine RE.sqN ?_
  refine RC.seq ?_
  refine RC.seq ?_
  refine RC.region rfl ?_
  refine RL.q (Qt.mv rfl) ?_
  refine RL.q (Qt.mv rfl) ?_
  refine RL.q (Qt.ldA rfl (by exact hS.at 0 rfl) (by exact hkx) (by exact Nat.le_of_ble_eq_true rfl)) ?_
  refine RL.e (Ef.call hS (kyRight k) rfl rfl Try.call39 [] [0, 1, 2] (by decide) rfl rfl) ?_
  rintro v11 w ⟨ps, ⟨rfl, rfl⟩, hS⟩
  try rw [List.nil_append] at hS
  refine RL.e (Ef.call hS (prMay p np nt queue B L id (kRight k) true) rfl rfl Try.call37 [1] [0, 2] (by decide) rfl rfl) ?_
  rintro v12 w ⟨ps, ⟨rfl, rfl⟩, hS⟩
  refine RL.q (Qt.as rfl) ?_
  refine RL.nil ?_
  refine RE.sqN ?_
  refine RC.seq ?_
  refine RC.region rfl ?_
  refine RL.q (Qt.mv rfl) ?_
  refine RL.q (Qt.neq rfl rfl) ?_
  refine RL.nil ?_
  refine RE.sqN ?_
  refine RC.cond rfl (fun h => ?_) (fun h => ?_)
  · refine RC.seq ?_
    refine RC.region rfl ?_
    refine RL.q (Qt.mv rfl) ?_
    refine RL.q (Qt.as rfl) ?_
    refine RL.nil ?_
    refine RE.sqN ?_
    refine RC.ret ?_
    refine RE.sqR ?_
    have h : ¬ prErr L nt id (kRight k) true = 0 := by simpa using h
    refine RE.retB rfl (ps := [pO _ np nt queue _ _]) ⟨rfl, rfl⟩ ?_
    rw [prChg, if_neg h]
    exact pO_mono (by omega) (hS.pick [0, 2] (by decide) rfl)
  · skip
    have he : prErr L nt id (kRight k) true = 0 := by simpa using h
    have h2 : pwOk L id = true := by
      unfold prErr at he
      split at he
      · cases he
      · split at he
        · cases he
        · rename_i h3
          cases hq : pwOk L id with
          | true => rfl
          | false => exact absurd ⟨rfl, hq⟩ h3
    have hrr : ¬ (id < 0 ∨ id ≥ nt ∨ kRight k = false) := fun e => by rw [prErr_range e] at he; cases he
    obtain ⟨i, hi, ha, hm⟩ := pw_get h2
    obtain ⟨b, r, sp, cap, vs, es, rfl, hp, hv, hat, hnp, hnt, hS⟩ := pO_open hS
    have hlen := hp.len
    have hltv : i < vs.length := by omega
    have hki := hp.at hi
    have hke : kErr L[i] nt id (kRight k) true = 0 := kErr_ok1 hrr hm
    have hpr : prChg L nt id k = L.set i (kChg L[i] nt id k) := by
      rw [prChg, if_pos he, ha, Int.toNat_natCast, prUpd_at hi]
    have hpq : PrOk np nt (L.set i (kChg L[i] nt id k)) := by rw [← hpr]; exact hp.chg ho
    have hae := hat.same hi hpq (fun a => kChg_mem hki.nodup) (kChg_len hki.nodup id k)
    obtain ⟨g1, _⟩ := hat.get id
    rw [ha] at g1
    obtain ⟨bs, cap', c, hv', hc1, hc2, hc3, hc4, hS⟩ := hS.ownPos 1 rfl (by omega)
    cases hv'
    have hS := Sat.objOut (f := pF nt B) hv hi (hS.pick [2, 0, 1, 3, 4, 5] (by decide) rfl)
    obtain ⟨ent, clock, hmi, hS⟩ := hS.mapOpen 4 rfl
    refine RC.skip ?_
    refine RE.sqN ?_
    refine RC.seq ?_
    refine RC.drawn 16 [0, 1, 2, 3, 4, 5, 6, 7, 8, 9, 10, 11, 12, 13, 14, 15] (fun w' => w'.heap[b]? = some (.cells #[.int .i64 np, .int .i64 nt, .int .i64 queue, .slice (some ⟨bs, 0, none⟩) L.length cap, .map (some r)] 69 (0, 0)) ∧ w'.heap[bs]? = some (.cells c 70 (0, 0)) ∧ w'.heap[b5]? = some (.cells k.cells.toArray 31 (0, 0)) ∧ w'.heap[r]? = some (.map ent clock)) (by kernel_rfl) (by kernel_rfl) (⟨by exact hS.drew.get 2 rfl, by exact hS.drew.get 3 rfl, by exact hS.drew.get 5 rfl, by exact hS.drew.get 4 rfl⟩) (fun hh => ?_)
    replace hS := hS.drew
    refine RH.q hh (Calm.sq Calm.body) rfl (by kernel_rfl) (Qt.mv rfl) ?_
    refine RH.q hh (Calm.sq Calm.body) rfl (by kernel_rfl) (Qt.nil rfl) ?_
    refine RH.q hh (Calm.sq Calm.body) rfl (by kernel_rfl) (Qt.fld rfl) ?_
    refine RH.q hh (Calm.sq Calm.body) rfl (by kernel_rfl) (Qt.ld rfl (by exact fun _ h => h.1) (by rfl)) ?_
    refine RH.q hh (Calm.sq Calm.body) rfl (by kernel_rfl) (Qt.mv rfl) ?_
    refine RH.q hh (Calm.sq Calm.body) rfl (by kernel_rfl) (Qt.nil rfl) ?_
    refine RH.q hh (Calm.sq Calm.body) rfl (by kernel_rfl) (Qt.fld rfl) ?_
    refine RH.q hh (Calm.sq Calm.body) rfl (by kernel_rfl) (Qt.ld rfl (by exact fun _ h => h.1) (by rfl)) ?_
    refine RH.q hh (Calm.sq Calm.body) rfl (by kernel_rfl) (Qt.mv rfl) ?_
    refine RH.q hh (Calm.sq Calm.body) rfl (by kernel_rfl) (Qt.lkV rfl rfl (by exact fun _ h => h.2.2.2) (hmi) (g1)) ?_
    refine RH.q hh (Calm.sq Calm.body) rfl (by kernel_rfl) (Qt.ixS rfl rfl (by omega) (by omega)) ?_
    refine RH.q hh (Calm.sq Calm.body) rfl (by kernel_rfl) (Qt.ld rfl (by exact fun _ h => h.2.1) (by exact ptr_cell hc4 hltv (by omega))) ?_
    refine RH.q hh (Calm.sq Calm.body) rfl (by kernel_rfl) (Qt.mv rfl) ?_
    refine RH.q hh (Calm.sq Calm.body) rfl (by kernel_rfl) (Qt.ldA rfl (by exact fun _ h => h.2.2.1) (by exact hkx) (by exact Nat.le_of_ble_eq_true rfl)) ?_
    refine RH.e hh rfl (by kernel_rfl) (Ef.call hS (rdChange vs[i] nt nt B L[i] id k ho hB) rfl rfl Try.call54 [0] [1, 2, 3, 4, 5, 6] (by decide) rfl rfl) ?_
    rintro v30 w ⟨ps, ⟨rfl, rfl⟩, hS⟩
    refine ⟨⟨by exact hS.get 2 rfl, by exact hS.get 3 rfl, by exact hS.get 5 rfl, by exact hS.get 4 rfl⟩, ?_⟩
    refine RH.q hh (Calm.sq Calm.body) rfl (by kernel_rfl) (Qt.as rfl) ?_
    refine RH.done hh (by kernel_rfl) ?_
    refine RL.nil ?_
    refine RE.sqN ?_
    refine RC.ret ?_
    have hS := hS.imp 1 rfl (p' := ObjsBut (pF nt (B + 1)) vs L i) (fun F hF => but_mono (by omega) hF)
    have hS := Sat.objIn (f := pF nt (B + 1)) hv hi (y := kChg L[i] nt id k) hS
    have hS := (hS.pick [1, 2, 0, 3, 5] (by decide) rfl).ownMk (cap := cap) (n := L.length) (sz := 1) (cs := vs) 1 rfl hc1 hc2 hc3 hc4
    have hS := hS.mapShut 3 rfl hmi
    have hsl : (L.set i (kChg L[i] nt id k)).length = L.length := List.length_set ..
    refine RE.retB rfl (ps := [pO _ np nt queue _ _]) ⟨by rw [he, hke]; rfl, rfl⟩ ?_
    rw [hpr]
    refine pO_shut (r := r) (s := .slice (some ⟨bs, 0, none⟩) L.length cap) hpq (by rw [hsl]; exact hv) hae hnp hnt ?_
    rw [hsl]
    exact hS
end Go.Proofs

/- Layer 11 itself: Put. -/
namespace Go.Proofs
open Go Go.Gx
variable {oo : World}

set_option maxHeartbeats 4000000 in
theorem prPutC (p : Value) (np nt : Nat) (queue B : Int) (L : List (List KItem)) (proc id : Int) (k : KKey) (ho : k.ok) (hB : B + 1 ≤ 18446744073709551615) : Ct Try.prog 15 #[p, .int .i64 proc, .int .i64 id, .agg k.cells.toArray] [pO p np nt queue B L] (fun v ps => v = .int .i64 (prPutErr L np nt proc id k) ∧ ps = [pO p np nt queue (B + 1) (prPut L np nt queue proc id k)]) := by
  refine Ct.enter Try.func15 rfl (Nat.le_of_ble_eq_true rfl) ?_
  intro oo w R hS
  change RC _ _ _ _ _ _ [(0, _), (1, _), (2, _), (3, _)] _
  have hkx : k.cells.toArray.extract 0 (0 + 3) = k.cells.toArray := rfl
  refine RC.seq ?_
  refine RC.region rfl ?_
  refine RL.e (Ef.box hS rfl) ?_
  rintro _ w ⟨b7, rfl, hS⟩
  try simp (disch := omega) only [cells_agg'] at hS
  refine RL.q (Qt.as rfl) ?_
  refine RL.nil ?_
  refine RE.sqN ?_
  refine RC.seq ?_
  refine RC.seq ?_
  refine RC.region rfl ?_
  refine RL.q (Qt.mv rfl) ?_
  refine RL.q (Qt.mv rfl) ?_
  refine RL.q (Qt.mv rfl) ?_
  refine RL.q (Qt.mv rfl) ?_
  refine RL.e (Ef.call hS (prIsC p np nt queue B L proc) rfl rfl Try.call38 [1] [0, 2] (by decide) rfl rfl) ?_
  rintro v14 w ⟨ps, ⟨rfl, rfl⟩, hS⟩
  have hS : Sat oo _ (pO p np nt queue B L :: pt b7 (.cells k.cells.toArray 31 (0, 0)) :: [R]) := hS
  have key : True := trivial
  cases hi : prIs np proc with
  | false =>
    have he : prPutErr L np nt proc id k = 2 := if_pos (.inr (.inr (by rw [hi]; rfl)))
    refine RL.q (Qt.mv rfl) ?_
    refine RL.s (Skips.guard rfl rfl rfl (rfl)) ?_
    refine RL.s (Skips.guard rfl rfl rfl (rfl)) ?_
    refine RL.q ((by exact Qt.pickF rfl rfl rfl)) ?_
    refine RL.e (Ef.call hS (prMay p np nt queue B L id false false) rfl rfl Try.call37 [0] [1, 2] (by decide) rfl rfl) ?_
    rintro v19 w ⟨ps, ⟨rfl, rfl⟩, hS⟩
    rw [show prErr L nt id false false = 2 from if_pos (.inr (.inr rfl))]
    refine RL.q (Qt.as rfl) ?_
    refine RL.nil ?_
    refine RE.sqN ?_
    refine RC.seq ?_
    refine RC.region rfl ?_
    refine RL.q (Qt.mv rfl) ?_
    refine RL.q (Qt.neq rfl rfl) ?_
    refine RL.nil ?_
    refine RE.sqN ?_
    refine RC.condT rfl (rfl) ?_
    refine RC.seq ?_
    refine RC.region rfl ?_
    refine RL.q (Qt.mv rfl) ?_
    refine RL.q (Qt.as rfl) ?_
    refine RL.nil ?_
    refine RE.sqN ?_
    refine RC.ret ?_
    refine RE.sqR ?_
    refine RE.retB rfl (ps := [pO _ np nt queue _ _]) ⟨by rw [he]; rfl, rfl⟩ ?_
    rw [prPut, he, if_neg (by decide)]
    exact pO_mono (by omega) (hS.pick [0, 2] (by decide) rfl)
  | true =>
    have hpp : prPutErr L np nt proc id k = prErr L nt id (kRight k) false := by rw [prPutErr, hi]; rfl
    have hpr0 : 0 ≤ proc ∧ proc < np := by simpa [prIs] using hi
    refine RL.q (Qt.mv rfl) ?_
    refine RL.q (Qt.ldA rfl (by exact hS.at 1 rfl) (by exact hkx) (by exact Nat.le_of_ble_eq_true rfl)) ?_ (Runs.guard rfl rfl rfl (rfl))
    refine RL.e (Ef.call hS (kyRight k) rfl rfl Try.call39 [] [0, 1, 2] (by decide) rfl rfl) ?_ (Runs.guard rfl rfl rfl (rfl))
    rintro v17 w ⟨ps, ⟨rfl, rfl⟩, hS⟩
    try rw [List.nil_append] at hS
    refine RL.q ((by exact Qt.pickT rfl rfl rfl)) ?_
    refine RL.e (Ef.call hS (prMay p np nt queue B L id (kRight k) false) rfl rfl Try.call37 [0] [1, 2] (by decide) rfl rfl) ?_
    rintro v19 w ⟨ps, ⟨rfl, rfl⟩, hS⟩
    refine RL.q (Qt.as rfl) ?_
    refine RL.nil ?_
    refine RE.sqN ?_
    refine RC.seq ?_
    refine RC.region rfl ?_
    refine RL.q (Qt.mv rfl) ?_
    refine RL.q (Qt.neq rfl rfl) ?_
    refine RL.nil ?_
    refine RE.sqN ?_
    refine RC.cond rfl (fun h => ?_) (fun h => ?_)
    · refine RC.seq ?_
      refine RC.region rfl ?_
      refine RL.q (Qt.mv rfl) ?_
      refine RL.q (Qt.as rfl) ?_
      refine RL.nil ?_
      refine RE.sqN ?_
      refine RC.ret ?_
      refine RE.sqR ?_
      have h : ¬ prErr L nt id (kRight k) false = 0 := by simpa using h
      refine RE.retB rfl (ps := [pO _ np nt queue _ _]) ⟨by rw [hpp]; rfl, rfl⟩ ?_
      rw [prPut, if_neg (by rw [hpp]; exact h)]
      exact pO_mono (by omega) (hS.pick [0, 2] (by decide) rfl)
    · skip
      have h : prErr L nt id (kRight k) false = 0 := by simpa using h
      have he : prPutErr L np nt proc id k = 0 := by rw [hpp]; exact h
      have hrr : ¬ (id < 0 ∨ id ≥ nt ∨ kRight k = false) := fun e => by rw [prErr_range e] at h; cases h
      have h2 : pwOk L id = false := by
        cases hq : pwOk L id with
        | false => rfl
        | true => rw [prErr_known hrr hq] at h; cases h
      have hid1 : ¬ id < 0 := fun e => hrr (.inl e)
      have hid2 : ¬ id ≥ nt := fun e => hrr (.inr (.inl e))
      have hid : 0 ≤ id ∧ id < nt := by omega
      have hri : kRight k = true := by
        cases hq : kRight k with
        | true => rfl
        | false => exact absurd (.inr (.inr hq)) hrr
      have hno : ∀ l ∈ L, id ∉ kIds l := fun l hl hm => by
        rw [pwOk_iff.2 ⟨l, hl, hm⟩] at h2; cases h2
      obtain ⟨b, r, sp, cap, vs, es, rfl, hp, hv, hat, hnp, hnt, hS⟩ := pO_open hS
      have hlen := hp.len
      have hlt : proc.toNat < L.length := by omega
      have hltv : proc.toNat < vs.length := by omega
      have hgd := getD_at hlt
      obtain ⟨bs, cap', c, hv', hc1, hc2, hc3, hc4, hS⟩ := hS.ownPos 1 rfl (by omega)
      cases hv'
      have hS := Sat.objOut (f := pF nt B) hv hlt (hS.pick [2, 0, 1, 3, 4, 5] (by decide) rfl)
      refine RC.skip ?_
      refine RE.sqN ?_
      refine RC.seq ?_
      refine RC.seq ?_
      refine RC.drawn 13 [0, 1, 2, 3, 4, 5, 6, 8, 9, 10, 11, 7, 12] (fun w' => w'.heap[b]? = some (.cells #[.int .i64 np, .int .i64 nt, .int .i64 queue, .slice (some ⟨bs, 0, none⟩) L.length cap, .map (some r)] 69 (0, 0)) ∧ w'.heap[bs]? = some (.cells c 70 (0, 0))) (by kernel_rfl) (by kernel_rfl) (⟨by exact hS.drew.get 2 rfl, by exact hS.drew.get 3 rfl⟩) (fun hh => ?_)
      replace hS := hS.drew
      refine RH.q hh (Calm.sq (Calm.sq Calm.body)) rfl (by kernel_rfl) (Qt.mv rfl) ?_
      refine RH.q hh (Calm.sq (Calm.sq Calm.body)) rfl (by kernel_rfl) (Qt.nil rfl) ?_
      refine RH.q hh (Calm.sq (Calm.sq Calm.body)) rfl (by kernel_rfl) (Qt.fld rfl) ?_
      refine RH.q hh (Calm.sq (Calm.sq Calm.body)) rfl (by kernel_rfl) (Qt.ld rfl (by exact fun _ h => h.1) (by rfl)) ?_
      refine RH.q hh (Calm.sq (Calm.sq Calm.body)) rfl (by kernel_rfl) (Qt.mv rfl) ?_
      refine RH.q hh (Calm.sq (Calm.sq Calm.body)) rfl (by kernel_rfl) (Qt.ixS rfl rfl (by omega) (by omega)) ?_
      refine RH.q hh (Calm.sq (Calm.sq Calm.body)) rfl (by kernel_rfl) (Qt.ld rfl (by exact fun _ h => h.2) (by exact ptr_cell hc4 hltv (by omega))) ?_
      refine RH.q hh (Calm.sq (Calm.sq Calm.body)) rfl (by kernel_rfl) (Qt.mv rfl) ?_
      refine RH.q hh (Calm.sq (Calm.sq Calm.body)) rfl (by kernel_rfl) (Qt.nil rfl) ?_
      refine RH.q hh (Calm.sq (Calm.sq Calm.body)) rfl (by kernel_rfl) (Qt.fld rfl) ?_
      refine RH.q hh (Calm.sq (Calm.sq Calm.body)) rfl (by kernel_rfl) (Qt.ld rfl (by exact fun _ h => h.1) (by rfl)) ?_
      refine RH.e hh rfl (by kernel_rfl) (Ef.call hS (rdLen vs[proc.toNat] nt nt B L[proc.toNat]) rfl rfl Try.call40 [0] [1, 2, 3, 4, 5, 6] (by decide) rfl rfl) ?_
      rintro v30 w ⟨ps, ⟨rfl, rfl⟩, hS⟩
      refine ⟨⟨by exact hS.get 2 rfl, by exact hS.get 3 rfl⟩, ?_⟩
      refine RH.q hh (Calm.sq (Calm.sq Calm.body)) rfl (by kernel_rfl) (Qt.geq rfl rfl) ?_
      refine RH.done hh (by kernel_rfl) ?_
      refine RL.nil ?_
      refine RE.sqN ?_
      have hS := Sat.objIn (f := pF nt B) hv hlt (y := L[proc.toNat]) hS
      rw [set_same hlt] at hS
      refine RC.cond rfl (fun h3 => ?_) (fun h3 => ?_)
      · skip
        have h3 : (L[proc.toNat].length : Int) ≥ queue := by simpa using h3
        have hlt2 : np < L.length := by omega
        have hltv2 : np < vs.length := by omega
        have hki := hp.at hlt2
        have hni : id ∉ kIds L[np] := hno _ (List.getElem_mem hlt2)
        have hrm := hki.room hid hni
        have hpe : kPutErr L[np] nt nt id k = 0 := by rw [kPutErr, kErr_ok0 (by rw [hri]; simp; omega) hni, if_pos rfl, if_neg (by omega)]
        have hpk : kPut L[np] nt nt id k = kput ⟨id, k⟩ L[np] := if_pos hpe
        have hto : prTo L np queue proc = np := by rw [prTo, hgd, if_pos h3]
        have hpr : prPut L np nt queue proc id k = L.set np (kput ⟨id, k⟩ L[np]) := by
          rw [prPut, if_pos he, hto, prUpd_at hlt2]
        have hpq : PrOk np nt (L.set np (kput ⟨id, k⟩ L[np])) := by rw [← hpr]; exact hp.put queue ho
        have hae := hat.more hlt2 (x := ⟨id, k⟩) hpq hno
        refine RC.region rfl ?_
        refine RL.q (Qt.mv rfl) ?_
        refine RL.q (Qt.nil rfl) ?_
        refine RL.q (Qt.fld rfl) ?_
        refine RL.q (Qt.ld rfl (by exact hS.at 1 rfl) (by rfl)) ?_
        refine RL.q (Qt.as rfl) ?_
        refine RL.nil ?_
        refine RE.sqN ?_
        refine RC.seq ?_
        refine RC.region rfl ?_
        refine RL.q (Qt.mv rfl) ?_
        refine RL.q (Qt.nil rfl) ?_
        refine RL.q (Qt.fld rfl) ?_
        refine RL.q (Qt.ld rfl (by exact hS.at 1 rfl) (by rfl)) ?_
        refine RL.q (Qt.mv rfl) ?_
        refine RL.q (Qt.mv rfl) ?_
        refine RL.e0 (Ef.mup hS 3 rfl rfl rfl rfl) ?_
        intro _ w hS
        simp only [List.set_cons_zero, List.set_cons_succ] at hS
        refine RL.nil ?_
        refine RE.sqN ?_
        refine RC.seq ?_
        have hS := Sat.objOut (f := pF nt B) hv hlt2 hS
        refine RC.drawn 11 [0, 1, 2, 3, 4, 5, 6, 7, 8, 9, 10] (fun w' => w'.heap[b]? = some (.cells #[.int .i64 np, .int .i64 nt, .int .i64 queue, .slice (some ⟨bs, 0, none⟩) L.length cap, .map (some r)] 69 (0, 0)) ∧ w'.heap[bs]? = some (.cells c 70 (0, 0)) ∧ w'.heap[b7]? = some (.cells k.cells.toArray 31 (0, 0))) (by kernel_rfl) (by kernel_rfl) (⟨by exact hS.drew.get 2 rfl, by exact hS.drew.get 3 rfl, by exact hS.drew.get 5 rfl⟩) (fun hh => ?_)
        replace hS := hS.drew
        refine RH.q hh (Calm.sq Calm.body) rfl (by kernel_rfl) (Qt.mv rfl) ?_
        refine RH.q hh (Calm.sq Calm.body) rfl (by kernel_rfl) (Qt.nil rfl) ?_
        refine RH.q hh (Calm.sq Calm.body) rfl (by kernel_rfl) (Qt.fld rfl) ?_
        refine RH.q hh (Calm.sq Calm.body) rfl (by kernel_rfl) (Qt.ld rfl (by exact fun _ h => h.1) (by rfl)) ?_
        refine RH.q hh (Calm.sq Calm.body) rfl (by kernel_rfl) (Qt.mv rfl) ?_
        refine RH.q hh (Calm.sq Calm.body) rfl (by kernel_rfl) (Qt.ixS rfl rfl (by omega) (by omega)) ?_
        refine RH.q hh (Calm.sq Calm.body) rfl (by kernel_rfl) (Qt.ld rfl (by exact fun _ h => h.2.1) (by exact ptr_cell hc4 hltv2 (by omega))) ?_
        refine RH.q hh (Calm.sq Calm.body) rfl (by kernel_rfl) (Qt.mv rfl) ?_
        refine RH.q hh (Calm.sq Calm.body) rfl (by kernel_rfl) (Qt.ldA rfl (by exact fun _ h => h.2.2) (by exact hkx) (by exact Nat.le_of_ble_eq_true rfl)) ?_
        refine RH.e hh rfl (by kernel_rfl) (Ef.call hS (rdPut vs[np] nt nt B L[np] id k ho hB) rfl rfl Try.call41 [0] [1, 2, 3, 4, 5, 6] (by decide) rfl rfl) ?_
        rintro v55 w ⟨ps, ⟨rfl, rfl⟩, hS⟩
        refine ⟨⟨by exact hS.get 2 rfl, by exact hS.get 3 rfl, by exact hS.get 5 rfl⟩, ?_⟩
        refine RH.q hh (Calm.sq Calm.body) rfl (by kernel_rfl) (Qt.as rfl) ?_
        refine RH.done hh (by kernel_rfl) ?_
        refine RL.nil ?_
        refine RE.sqN ?_
        refine RC.ret ?_
        rw [hpk] at hS
        have hS := hS.imp 1 rfl (p' := ObjsBut (pF nt (B + 1)) vs L (np)) (fun F hF => but_mono (by omega) hF)
        have hS := Sat.objIn (f := pF nt (B + 1)) hv hlt2 (y := kput ⟨id, k⟩ L[np]) hS
        have hS := (hS.pick [1, 2, 0, 3, 5] (by decide) rfl).ownMk (cap := cap) (n := L.length) (sz := 1) (cs := vs) 1 rfl hc1 hc2 hc3 hc4
        have hsl : (L.set np (kput ⟨id, k⟩ L[np])).length = L.length := List.length_set ..
        refine RE.retB rfl (ps := [pO _ np nt queue _ _]) ⟨by rw [he, hpe]; rfl, rfl⟩ ?_
        rw [hpr]
        refine pO_shut (r := r) (s := .slice (some ⟨bs, 0, none⟩) L.length cap) hpq (by rw [hsl]; exact hv) hae hnp hnt ?_
        rw [hsl]
        exact hS
      · skip
        have h3 : ¬ (L[proc.toNat].length : Int) ≥ queue := by simpa using h3
        have hlt2 : proc.toNat < L.length := by omega
        have hltv2 : proc.toNat < vs.length := by omega
        have hki := hp.at hlt2
        have hni : id ∉ kIds L[proc.toNat] := hno _ (List.getElem_mem hlt2)
        have hrm := hki.room hid hni
        have hpe : kPutErr L[proc.toNat] nt nt id k = 0 := by rw [kPutErr, kErr_ok0 (by rw [hri]; simp; omega) hni, if_pos rfl, if_neg (by omega)]
        have hpk : kPut L[proc.toNat] nt nt id k = kput ⟨id, k⟩ L[proc.toNat] := if_pos hpe
        have hto : prTo L np queue proc = proc.toNat := by rw [prTo, hgd, if_neg h3]
        have hpr : prPut L np nt queue proc id k = L.set proc.toNat (kput ⟨id, k⟩ L[proc.toNat]) := by
          rw [prPut, if_pos he, hto, prUpd_at hlt2]
        have hpq : PrOk np nt (L.set proc.toNat (kput ⟨id, k⟩ L[proc.toNat])) := by rw [← hpr]; exact hp.put queue ho
        have hae := hat.more hlt2 (x := ⟨id, k⟩) hpq hno
        refine RC.skip ?_
        refine RE.sqN ?_
        refine RC.seq ?_
        refine RC.region rfl ?_
        refine RL.q (Qt.mv rfl) ?_
        refine RL.q (Qt.nil rfl) ?_
        refine RL.q (Qt.fld rfl) ?_
        refine RL.q (Qt.ld rfl (by exact hS.at 1 rfl) (by rfl)) ?_
        refine RL.q (Qt.mv rfl) ?_
        refine RL.q (Qt.mv rfl) ?_
        refine RL.e0 (Ef.mup hS 3 rfl rfl rfl rfl) ?_
        intro _ w hS
        simp only [List.set_cons_zero, List.set_cons_succ] at hS
        refine RL.nil ?_
        refine RE.sqN ?_
        refine RC.seq ?_
        have hS := Sat.objOut (f := pF nt B) hv hlt2 hS
        refine RC.drawn 11 [0, 1, 2, 3, 4, 5, 6, 7, 8, 9, 10] (fun w' => w'.heap[b]? = some (.cells #[.int .i64 np, .int .i64 nt, .int .i64 queue, .slice (some ⟨bs, 0, none⟩) L.length cap, .map (some r)] 69 (0, 0)) ∧ w'.heap[bs]? = some (.cells c 70 (0, 0)) ∧ w'.heap[b7]? = some (.cells k.cells.toArray 31 (0, 0))) (by kernel_rfl) (by kernel_rfl) (⟨by exact hS.drew.get 2 rfl, by exact hS.drew.get 3 rfl, by exact hS.drew.get 5 rfl⟩) (fun hh => ?_)
        replace hS := hS.drew
        refine RH.q hh (Calm.sq Calm.body) rfl (by kernel_rfl) (Qt.mv rfl) ?_
        refine RH.q hh (Calm.sq Calm.body) rfl (by kernel_rfl) (Qt.nil rfl) ?_
        refine RH.q hh (Calm.sq Calm.body) rfl (by kernel_rfl) (Qt.fld rfl) ?_
        refine RH.q hh (Calm.sq Calm.body) rfl (by kernel_rfl) (Qt.ld rfl (by exact fun _ h => h.1) (by rfl)) ?_
        refine RH.q hh (Calm.sq Calm.body) rfl (by kernel_rfl) (Qt.mv rfl) ?_
        refine RH.q hh (Calm.sq Calm.body) rfl (by kernel_rfl) (Qt.ixS rfl rfl (by omega) (by omega)) ?_
        refine RH.q hh (Calm.sq Calm.body) rfl (by kernel_rfl) (Qt.ld rfl (by exact fun _ h => h.2.1) (by exact ptr_cell hc4 hltv2 (by omega))) ?_
        refine RH.q hh (Calm.sq Calm.body) rfl (by kernel_rfl) (Qt.mv rfl) ?_
        refine RH.q hh (Calm.sq Calm.body) rfl (by kernel_rfl) (Qt.ldA rfl (by exact fun _ h => h.2.2) (by exact hkx) (by exact Nat.le_of_ble_eq_true rfl)) ?_
        refine RH.e hh rfl (by kernel_rfl) (Ef.call hS (rdPut vs[proc.toNat] nt nt B L[proc.toNat] id k ho hB) rfl rfl Try.call41 [0] [1, 2, 3, 4, 5, 6] (by decide) rfl rfl) ?_
        rintro v55 w ⟨ps, ⟨rfl, rfl⟩, hS⟩
        refine ⟨⟨by exact hS.get 2 rfl, by exact hS.get 3 rfl, by exact hS.get 5 rfl⟩, ?_⟩
        refine RH.q hh (Calm.sq Calm.body) rfl (by kernel_rfl) (Qt.as rfl) ?_
        refine RH.done hh (by kernel_rfl) ?_
        refine RL.nil ?_
        refine RE.sqN ?_
        refine RC.ret ?_
        rw [hpk] at hS
        have hS := hS.imp 1 rfl (p' := ObjsBut (pF nt (B + 1)) vs L (proc.toNat)) (fun F hF => but_mono (by omega) hF)
        have hS := Sat.objIn (f := pF nt (B + 1)) hv hlt2 (y := kput ⟨id, k⟩ L[proc.toNat]) hS
        have hS := (hS.pick [1, 2, 0, 3, 5] (by decide) rfl).ownMk (cap := cap) (n := L.length) (sz := 1) (cs := vs) 1 rfl hc1 hc2 hc3 hc4
        have hsl : (L.set proc.toNat (kput ⟨id, k⟩ L[proc.toNat])).length = L.length := List.length_set ..
        refine RE.retB rfl (ps := [pO _ np nt queue _ _]) ⟨by rw [he, hpe]; rfl, rfl⟩ ?_
        rw [hpr]
        refine pO_shut (r := r) (s := .slice (some ⟨bs, 0, none⟩) L.length cap) hpq (by rw [hsl]; exact hv) hae hnp hnt ?_
        rw [hsl]
        rw [show ((proc.toNat : Nat) : Int) = proc by omega]
        exact hS
end Go.Proofs

/- Layer 11 itself: Remove. -/
namespace Go.Proofs
open Go Go.Gx
variable {oo : World}

theorem mdel_len {es : List (Int × Value)} (hn : (mkeys es).Nodup) {i : Int} (h : i ∈ mkeys es) : (mdel es i).length + 1 = es.length := by
  have h1 : (mkeys (mdel es i)).length = (mdel es i).length := List.length_map _
  have h2 : (mkeys es).length = es.length := List.length_map _
  have h3 : mkeys (mdel es i) = (mkeys es).erase i := by
    rw [mkeys_mdel, hn.erase_eq_filter]
    apply List.filter_congr
    intro x _
    by_cases e : x = i <;> simp [e]
  have h4 := List.length_erase_of_mem h
  have : 0 < (mkeys es).length := List.length_pos_of_mem h
  rw [h3] at h1
  omega
/-- One id less. -/
theorem AtOk.less {np nt : Nat} {L : List (List KItem)} {es : List (Int × Value)} (h : AtOk L es) (hn : (mkeys es).Nodup) (hp : PrOk np nt L) {i : Nat} (hi : i < L.length) {id : Int} (hm : id ∈ kIds L[i]) (hp' : PrOk np nt (L.set i (kout L[i] id))) : AtOk (L.set i (kout L[i] id)) (mdel es id) := by
  refine ⟨fun a => ?_, ?_⟩
  · rw [mget_mdel]
    by_cases e : a = id
    · subst e
      rw [if_pos rfl]
      rcases pw_spec (L.set i (kout L[i] a)) a with ⟨h1, _⟩ | ⟨j, hj, _, h2, _⟩
      · rw [h1]; rfl
      · exfalso
        rw [List.length_set] at hj
        rw [List.getElem_set] at h2
        by_cases ej : i = j
        · rw [if_pos ej, mem_kout_ids] at h2
          exact h2.2 rfl
        · rw [if_neg ej] at h2
          exact ej (hp.apart i j hi hj a hm h2)
    · rw [if_neg e, h.at', pw_congr (L := L) (L' := L.set i (kout L[i] id)) hp' (List.length_set ..) fun j hj hj' => ?_]
      rw [List.getElem_set]
      split
      · subst_vars; rw [mem_kout_ids]; simp [e]
      · exact Iff.rfl
  · have hk : id ∈ mkeys es := by
      cases hq : mget es id with
      | none => rw [h.at', hp.pw_some hi hm] at hq; cases hq
      | some v =>
        have := mget_mem hq
        exact List.mem_map.2 ⟨_, this, rfl⟩
    have h1 := mdel_len hn hk
    have h2 := kout_len (hp.at hi).nodup hm
    have h3 := h.len
    rw [prLen_set hi]
    omega

set_option maxHeartbeats 4000000 in
theorem prRemove (p : Value) (np nt : Nat) (queue B : Int) (L : List (List KItem)) (id : Int) : Ct Try.prog 33 #[p, .int .i64 id] [pO p np nt queue B L] (fun v ps => v = .int .i64 (prErr L nt id true true) ∧ ps = [pO p np nt queue B (prRem L nt id)]) := by
  refine Ct.enter Try.func33 rfl (Nat.le_of_ble_eq_true rfl) ?_
  intro oo w R hS
  change RC _ _ _ _ _ _ [(0, _), (1, _)] _
  refine RC.seq ?_
  refine RC.region rfl ?_
  refine RL.q (Qt.as rfl) ?_
  refine RL.nil ?_
  refine RE.sqN ?_
  refine RC.seq ?_
  refine RC.seq ?_
  refine RC.region rfl ?_
  refine RL.q (Qt.mv rfl) ?_
  refine RL.q (Qt.mv rfl) ?_
  refine RL.e (Ef.call hS (prMay p np nt queue B L id true true) rfl rfl Try.call37 [0] [1] (by decide) rfl rfl) ?_
  rintro v9 w ⟨ps, ⟨rfl, rfl⟩, hS⟩
  refine RL.q (Qt.as rfl) ?_
  refine RL.nil ?_
  refine RE.sqN ?_
  refine RC.seq ?_
  refine RC.region rfl ?_
  refine RL.q (Qt.mv rfl) ?_
  refine RL.q (Qt.neq rfl rfl) ?_
  refine RL.nil ?_
  refine RE.sqN ?_
  refine RC.cond rfl (fun h => ?_) (fun h => ?_)
  · refine RC.seq ?_
    refine RC.region rfl ?_
    refine RL.q (Qt.mv rfl) ?_
    refine RL.q (Qt.as rfl) ?_
    refine RL.nil ?_
    refine RE.sqN ?_
    refine RC.ret ?_
    refine RE.sqR ?_
    have h : ¬ prErr L nt id true true = 0 := by simpa using h
    refine RE.retB rfl (ps := [pO _ np nt queue _ _]) ⟨rfl, rfl⟩ ?_
    rw [prRem, if_neg h]
    exact hS
  · skip
    have he : prErr L nt id true true = 0 := by simpa using h
    have hrr : ¬ (id < 0 ∨ id ≥ nt ∨ true = false) := fun e => by rw [prErr_range e] at he; cases he
    have h2 : pwOk L id = true := by
      cases hq : pwOk L id with
      | true => rfl
      | false => rw [prErr_none hrr hq] at he; cases he
    obtain ⟨i, hi, ha, hm⟩ := pw_get h2
    obtain ⟨b, r, sp, cap, vs, es, rfl, hp, hv, hat, hnp, hnt, hS⟩ := pO_open hS
    have hlen := hp.len
    have hltv : i < vs.length := by omega
    have hki := hp.at hi
    have hke : kErr L[i] nt id true true = 0 := kErr_ok1 hrr hm
    have hkr : kRem L[i] nt id = kout L[i] id := if_pos hke
    have hpr : prRem L nt id = L.set i (kout L[i] id) := by
      rw [prRem, if_pos he, ha, Int.toNat_natCast, prUpd_at hi]
    have hpq : PrOk np nt (L.set i (kout L[i] id)) := by rw [← hpr]; exact hp.rem id
    obtain ⟨g1, _⟩ := hat.get id
    rw [ha] at g1
    obtain ⟨ent, clock, hmi, hS⟩ := hS.mapOpen 3 rfl
    have hae := hat.less hmi.nodup hp hi hm hpq
    refine RC.skip ?_
    refine RE.sqN ?_
    refine RC.seq ?_
    refine RC.region rfl ?_
    refine RL.q (Qt.mv rfl) ?_
    refine RL.q (Qt.nil rfl) ?_
    refine RL.q (Qt.fld rfl) ?_
    refine RL.q (Qt.ld rfl (by exact hS.at 0 rfl) (by first  | rfl)) ?_
    refine RL.q (Qt.mv rfl) ?_
    refine RL.q (Qt.lkV rfl rfl (by exact hS.at 3 rfl) (hmi) (g1)) ?_
    refine RL.q (Qt.as rfl) ?_
    refine RL.nil ?_
    refine RE.sqN ?_
    refine RC.seq ?_
    refine RC.region rfl ?_
    refine RL.q (Qt.mv rfl) ?_
    refine RL.q (Qt.nil rfl) ?_
    refine RL.q (Qt.fld rfl) ?_
    refine RL.q (Qt.ld rfl (by exact hS.at 0 rfl) (by first  | rfl)) ?_
    refine RL.q (Qt.mv rfl) ?_
    have hS := hS.mapShut 3 rfl hmi
    obtain ⟨bs, cap', c, hv', hc1, hc2, hc3, hc4, hS⟩ := hS.ownPos 1 rfl (by omega)
    cases hv'
    have hS := Sat.objOut (f := pF nt B) hv hi (hS.pick [2, 0, 1, 3, 4] (by decide) rfl)
    refine RL.e0 (Ef.mdl hS 4 rfl rfl rfl) ?_
    intro _ w hS
    simp only [List.set_cons_zero, List.set_cons_succ] at hS
    refine RL.nil ?_
    refine RE.sqN ?_
    refine RC.seq ?_
    refine RC.region rfl ?_
    refine RL.q (Qt.mv rfl) ?_
    refine RL.q (Qt.nil rfl) ?_
    refine RL.q (Qt.fld rfl) ?_
    refine RL.q (Qt.ld rfl (by exact hS.at 2 rfl) (by rfl)) ?_
    refine RL.q (Qt.mv rfl) ?_
    refine RL.q (Qt.ixS rfl rfl (by omega) (by omega)) ?_
    refine RL.q (Qt.ld rfl (by exact hS.at 3 rfl) (by exact ptr_cell hc4 hltv (by omega))) ?_
    refine RL.q (Qt.mv rfl) ?_
    refine RL.e (Ef.call hS (rdRemove vs[i] nt nt B L[i] id) rfl rfl Try.call55 [0] [1, 2, 3, 4, 5] (by decide) rfl rfl) ?_
    rintro v32 w ⟨ps, ⟨rfl, rfl⟩, hS⟩
    refine RL.q (Qt.as rfl) ?_
    refine RL.nil ?_
    refine RE.sqN ?_
    refine RC.ret ?_
    rw [hkr] at hS
    have hS := Sat.objIn (f := pF nt B) hv hi (y := kout L[i] id) hS
    have hS := (hS.pick [1, 2, 0, 3, 4] (by decide) rfl).ownMk (cap := cap) (n := L.length) (sz := 1) (cs := vs) 1 rfl hc1 hc2 hc3 hc4
    have hsl : (L.set i (kout L[i] id)).length = L.length := List.length_set ..
    refine RE.retB rfl (ps := [pO _ np nt queue _ _]) ⟨by rw [he, hke]; rfl, rfl⟩ ?_
    rw [hpr]
    refine pO_shut (r := r) (s := .slice (some ⟨bs, 0, none⟩) L.length cap) hpq (by rw [hsl]; exact hv) hae hnp hnt ?_
    rw [hsl]
    exact hS
end Go.Proofs

/- Layer 11 itself: New. -/
namespace Go.Proofs
open Go Go.Gx
variable {oo : World}

theorem AtOk.empty (np : Nat) : AtOk (List.replicate (np + 1) []) [] := by
  refine ⟨fun id => ?_, ?_⟩
  · rcases pw_spec (List.replicate (np + 1) []) id with ⟨h1, _⟩ | ⟨i, hi, _, h2, _⟩
    · rw [h1]; rfl
    · simp [kIds] at h2
  · have : ∀ n : Nat, prLen (List.replicate n []) = 0 := fun n => by
      induction n with
      | zero => rfl
      | succ n ih => rw [List.replicate_succ, prLen_cons, ih]; rfl
    rw [this]; rfl
theorem rdNewN2 (n : Nat) (h0 : 1 ≤ n) (h1 : n ≤ 1024) : Ct Try.prog 36 #[.int .i64 n, .int .i64 n] [] (fun v ps => (∃ b, v = .pointer (some ⟨b, 0, none⟩)) ∧ ps = [sO v n n 0 []]) := by
  have := rdNew n n (by omega) (by omega) (by omega) (by omega)
  rw [Int.toNat_natCast] at this
  exact this

set_option maxHeartbeats 2000000 in
theorem prNew (np nt : Nat) (queue : Int) (h0 : 1 ≤ np) (h1 : np ≤ 64) (h2 : 1 ≤ nt) (h3 : nt ≤ 1024) (h4 : 1 ≤ queue) (h5 : queue ≤ 256) : Ct Try.prog 14 #[.int .i64 np, .int .i64 nt, .int .i64 queue] [] (fun v ps => (∃ b, v = .pointer (some ⟨b, 0, none⟩)) ∧ ps = [pO v np nt queue 0 (List.replicate (np + 1) [])]) := by
  refine Ct.enter Try.func14 rfl (Nat.le_of_ble_eq_true rfl) ?_
  intro oo w R hS
  change RC _ _ _ _ _ _ [(0, _), (1, _), (2, _)] _
  refine RC.seq ?_
  refine RC.region rfl ?_
  refine RL.q (Qt.as rfl) ?_
  refine RL.nil ?_
  refine RE.sqN ?_
  refine RC.seq ?_
  refine RC.seq ?_
  refine RC.region rfl ?_
  refine RL.q (Qt.mv rfl) ?_
  refine RL.q (Qt.lss rfl rfl) ?_
  refine RL.q (Qt.mv rfl) ?_
  refine RLG.start 10 false rfl ?_
  refine RLG.q rfl rfl rfl (fun _ => Qt.mv rfl) ?_
  refine RLG.q rfl rfl rfl (fun hg => by (try simp only [decide_eq_false_iff_not] at hg); exact Qt.gtr rfl rfl) ?_
  refine RLG.or rfl rfl ?_
  refine RL.q (Qt.mv rfl) ?_
  refine RLG.start 14 false rfl ?_
  refine RLG.q rfl rfl rfl (fun _ => Qt.mv rfl) ?_
  refine RLG.q rfl rfl rfl (fun hg => by (try simp only [decide_eq_false_iff_not, Bool.or_eq_false_iff] at hg); exact Qt.lss rfl rfl) ?_
  refine RLG.or rfl rfl ?_
  refine RL.q (Qt.mv rfl) ?_
  refine RLG.start 18 false rfl ?_
  refine RLG.q rfl rfl rfl (fun _ => Qt.mv rfl) ?_
  refine RLG.q rfl rfl rfl (fun hg => by (try simp only [decide_eq_false_iff_not, Bool.or_eq_false_iff] at hg); exact Qt.gtr rfl rfl) ?_
  refine RLG.or rfl rfl ?_
  refine RL.q (Qt.mv rfl) ?_
  refine RLG.start 22 false rfl ?_
  refine RLG.q rfl rfl rfl (fun _ => Qt.mv rfl) ?_
  refine RLG.q rfl rfl rfl (fun hg => by (try simp only [decide_eq_false_iff_not, Bool.or_eq_false_iff] at hg); exact Qt.lss rfl rfl) ?_
  refine RLG.or rfl rfl ?_
  refine RL.q (Qt.mv rfl) ?_
  refine RLG.start 26 false rfl ?_
  refine RLG.q rfl rfl rfl (fun _ => Qt.mv rfl) ?_
  refine RLG.q rfl rfl rfl (fun hg => by (try simp only [decide_eq_false_iff_not, Bool.or_eq_false_iff] at hg); exact Qt.gtr rfl rfl) ?_
  refine RLG.or rfl rfl ?_
  refine RL.nil ?_
  refine RE.sqN ?_
  refine RC.condF rfl (by simp; omega) ?_
  refine RC.skip ?_
  refine RE.sqN ?_
  refine RC.seq ?_
  refine RC.region rfl ?_
  refine RL.q (Qt.mv rfl) ?_
  refine RL.q (Qt.mv rfl) ?_
  refine RL.q (Qt.mv rfl) ?_
  refine RL.e (Ef.mkm (k := .i64) hS) ?_
  rintro _ w ⟨r33, rfl, hS⟩
  refine RL.q (Qt.bldV [.tmp 30, .tmp 31, .tmp 32, .const (Go.Value.slice none 0 0), .tmp 33] rfl rfl (by kernel_rfl)) ?_
  refine RL.e (Ef.box hS rfl) ?_
  rintro _ w ⟨b35, rfl, hS⟩
  try simp (disch := omega) only [cells_agg'] at hS
  refine RL.q (Qt.as rfl) ?_
  refine RL.nil ?_
  refine RE.sqN ?_
  refine RC.seq ?_
  refine RC.seq ?_
  refine RC.region rfl ?_
  refine RL.q (Qt.mv rfl) ?_
  refine RL.q ((by exact Qt.addI rfl rfl (by dsimp only [inK]; omega))) ?_
  refine RL.q (Qt.mv rfl) ?_
  refine RL.nil ?_
  refine RE.sqN ?_
  refine RC.block ?_
  have hS := (Sat.objNil (f := pF nt 0) hS).nilOwn (T := 70) (sz := 1)
  refine RC.loop (γ := Nat × Value × List Value) (fun g E w' => E = [(38, .int .i64 g.1), (37, .int .i64 ((np : Int) + 1)), (7, .pointer (some ⟨b35, 0, none⟩)), (1, .int .i64 nt)] ∧ (g.1 ≤ np + 1 ∧ g.2.2.length = g.1) ∧ Sat oo w' [own g.2.1 70 1 g.1 g.2.2, Objs (pF nt 0) g.2.2 (List.replicate g.1 []), pt b35 (.cells #[.int .i64 np, .int .i64 nt, .int .i64 queue, g.2.1, .map (some r33)] 69 (0, 0)), mapP r33 .i64 [], R]) (fun g => np + 1 - g.1) (0, .slice none 0 0, []) _ (by (repeat (first | exact Sub.nil | refine Sub.cons rfl ?_))) ⟨rfl, ⟨by dsimp only; omega, rfl⟩, hS⟩ ?_
  clear hS
  rintro ⟨k, v, vs⟩ E w ⟨rfl, ⟨hk, hvk⟩, hS⟩
  dsimp only at hk hvk hS
  refine RC.seq ?_
  refine RC.region rfl ?_
  refine RL.q (Qt.lss rfl rfl) ?_
  refine RL.nil ?_
  refine RE.sqN ?_
  refine RC.seq ?_
  refine RC.cond rfl (fun h => ?_) (fun h => ?_)
  · skip
    have hlt : k < np + 1 := by
      have : (k : Int) < (np : Int) + 1 := of_decide_eq_true h
      omega
    obtain ⟨sp, cap, rfl⟩ := hS.ownForm 0 rfl
    refine RC.skip ?_
    refine RE.sqN ?_
    refine RC.seq ?_
    refine RC.block ?_
    refine RC.drawn 12 [0, 1, 2, 3, 4, 5, 6, 7, 8, 9, 10, 11] (fun w' => w'.heap[b35]? = some (.cells #[.int .i64 np, .int .i64 nt, .int .i64 queue, .slice sp k cap, .map (some r33)] 69 (0, 0))) (by kernel_rfl) (by kernel_rfl) (hS.drew.get 2 rfl) (fun hh => ?_)
    replace hS := hS.drew
    refine RH.q hh (Calm.bk (Calm.sq (Calm.lp (Calm.bk (Calm.sq Calm.body))))) rfl (by kernel_rfl) (Qt.mv rfl) ?_
    refine RH.q hh (Calm.bk (Calm.sq (Calm.lp (Calm.bk (Calm.sq Calm.body))))) rfl (by kernel_rfl) (Qt.mv rfl) ?_
    refine RH.q hh (Calm.bk (Calm.sq (Calm.lp (Calm.bk (Calm.sq Calm.body))))) rfl (by kernel_rfl) (Qt.nil rfl) ?_
    refine RH.q hh (Calm.bk (Calm.sq (Calm.lp (Calm.bk (Calm.sq Calm.body))))) rfl (by kernel_rfl) (Qt.fld rfl) ?_
    refine RH.q hh (Calm.bk (Calm.sq (Calm.lp (Calm.bk (Calm.sq Calm.body))))) rfl (by kernel_rfl) (Qt.ld rfl (fun _ h => h) (by first  | rfl)) ?_
    refine RH.q hh (Calm.bk (Calm.sq (Calm.lp (Calm.bk (Calm.sq Calm.body))))) rfl (by kernel_rfl) (Qt.mv rfl) ?_
    refine RH.q hh (Calm.bk (Calm.sq (Calm.lp (Calm.bk (Calm.sq Calm.body))))) rfl (by kernel_rfl) (Qt.mv rfl) ?_
    refine RH.e hh rfl (by kernel_rfl) (Ef.call hS (rdNewN2 nt h2 h3) rfl rfl Try.call36 [] [0, 1, 2, 3, 4] (by decide) rfl rfl) ?_
    rintro v47 w ⟨ps, ⟨⟨bn, rfl⟩, rfl⟩, hS⟩
    refine ⟨(by exact hS.get 3 rfl), ?_⟩
    refine RH.e hh rfl (by kernel_rfl) (Ef.bsl1 hS rfl) ?_
    rintro _ w ⟨b48, rfl, hS⟩
    try simp (disch := omega) only [cells_ptr'] at hS
    refine ⟨(by exact hS.get 4 rfl), ?_⟩
    refine RH.e hh rfl (by kernel_rfl) (Ef.app (k := 2) hS rfl rfl rfl (Src.pt (hS.get 0 rfl) (Nat.le_of_ble_eq_true rfl)) (by omega) (by rfl)) ?_
    intro s49 w hS
    simp only [List.set_cons_succ, List.drop_zero] at hS
    (obtain ⟨sp49, cp49, rfl⟩ := hS.ownForm 2 rfl)
    refine ⟨(by exact hS.get 4 rfl), ?_⟩
    refine RH.q hh (Calm.bk (Calm.sq (Calm.lp (Calm.bk (Calm.sq Calm.body))))) rfl (by kernel_rfl) (Qt.nil rfl) ?_
    refine RH.q hh (Calm.bk (Calm.sq (Calm.lp (Calm.bk (Calm.sq Calm.body))))) rfl (by kernel_rfl) (Qt.fld rfl) ?_
    refine RH.done hh (by kernel_rfl) ?_
    refine RL.e0 (Ef.st hS 4 rfl rfl rfl (by rfl) (by rfl) (by exact Nat.le_of_ble_eq_true rfl)) ?_
    intro _ w hS
    simp (disch := omega) only [List.set_cons_zero, List.set_cons_succ, cells_slice', Nat.zero_add, wr, List.setIfInBounds_toArray] at hS
    refine RL.nil ?_
    refine RE.bkN ?_
    refine RE.sqN ?_
    refine RC.region rfl ?_
    refine RL.q ((by exact Qt.addI rfl rfl (by dsimp only [inK]; omega))) ?_
    refine RL.q (Qt.mv rfl) ?_
    refine RL.nil ?_
    have hS := Sat.objSnoc (f := pF nt 0) (vs := vs) (xs := List.replicate k []) (v := .pointer (some ⟨bn, 0, none⟩)) (y := []) (by simp [hvk]) (hS.pick [3, 1, 2, 4, 5, 6] (by decide) rfl)
    rw [show List.replicate k ([] : List KItem) ++ [[]] = List.replicate (k + 1) [] from List.replicate_succ'.symm] at hS
    apply RE.lpN ((k + 1, .slice sp49 (k + 1) cp49, vs ++ [.pointer (some ⟨bn, 0, none⟩)]))
    case hI => exact ⟨rfl, ⟨by dsimp only; omega, by simp [hvk]⟩, hS.pick [1, 0, 2, 3, 4] (by decide) rfl⟩
    case hs => (repeat (first | exact Sub.nil | refine Sub.cons rfl ?_))
    case hm =>
      show np + 1 - (k + 1) < np + 1 - k
      omega
  · refine RC.exit ?_
    refine RE.sqX ?_
    refine RE.lpX ?_
    refine RE.bkX ?_
    refine RE.sqN ?_
    refine RC.seq ?_
    refine RC.region rfl ?_
    refine RL.q (Qt.mv rfl) ?_
    refine RL.q (Qt.as rfl) ?_
    refine RL.nil ?_
    refine RE.sqN ?_
    refine RC.ret ?_
    have hge : k = np + 1 := by
      have : ¬ (k : Int) < (np : Int) + 1 := of_decide_eq_false h
      omega
    subst hge
    exact RE.retB rfl ⟨⟨_, rfl⟩, rfl⟩ (pO_shut (vs := vs) PrOk.empty (by simp [hvk]) (AtOk.empty np) ⟨h0, h1⟩ ⟨h2, h3⟩ (by rw [List.length_replicate]; exact hS.pick [2, 0, 1, 3, 4] (by decide) rfl))
end Go.Proofs

/- Layer 11 itself: round. -/
namespace Go.Gx
open Go
theorem Qt.mkf3 {P : Program} {S : World → Prop} {E : Env} {dst : Option Nat} {ty : TypeId} {pos : String} {af : Array Edge} {g : Option (Nat × Bool)} {fn : Fn} {x y z : Operand} {v u t : Value} (hx : ev E x = some v) (hy : ev E y = some u) (hz : ev E z = some t) : Qt P S E ⟨dst, .makeFunc fn #[] #[x, y, z], ty, pos, af, g⟩ (.func fn #[] #[v, u, t]) := fun a ha w _ => by
  simp [execOp, Instr.makeFunc, ha.ev hx, ha.ev hy, ha.ev hz]
end Go.Gx
namespace Go.Proofs
open Go Go.Gx
variable {oo : World}

set_option maxHeartbeats 1000000 in
theorem prRound (b : Nat) (proc draw : Int) : Ct Try.prog 42 #[.pointer (some ⟨b, 0, none⟩), .int .i64 proc, .int .u64 draw] [] (fun v ps => ∃ b1 b2 b3, v = .func (.func 66) #[] #[.pointer (some ⟨b1, 0, none⟩), .pointer (some ⟨b2, 0, none⟩), .pointer (some ⟨b3, 0, none⟩)] ∧
    ps = [pt b1 (.cells #[.int .i64 proc] 3 (0, 0)), pt b2 (.cells #[.pointer (some ⟨b, 0, none⟩)] 24 (0, 0)), pt b3 (.cells #[.int .u64 draw] 29 (0, 0))]) := by
  refine Ct.enter Try.func42 rfl (Nat.le_of_ble_eq_true rfl) ?_
  intro oo w R hS
  change RC _ _ _ _ _ _ [(0, _), (1, _), (2, _)] _
  refine RC.seq ?_
  refine RC.region rfl ?_
  refine RL.e (Ef.box hS rfl) ?_
  rintro _ w ⟨b3, rfl, hS⟩
  try simp (disch := omega) only [cells_ptr'] at hS
  refine RL.e (Ef.box hS rfl) ?_
  rintro _ w ⟨b4, rfl, hS⟩
  try simp (disch := omega) only [cells_int'] at hS
  refine RL.e (Ef.box hS rfl) ?_
  rintro _ w ⟨b5, rfl, hS⟩
  try simp (disch := omega) only [cells_int'] at hS
  refine RL.q (Qt.as rfl) ?_
  refine RL.nil ?_
  refine RE.sqN ?_
  refine RC.seq ?_
  refine RC.region rfl ?_
  refine RL.q (Qt.mkf3 rfl rfl rfl) ?_
  refine RL.q (Qt.as rfl) ?_
  refine RL.nil ?_
  refine RE.sqN ?_
  refine RC.ret ?_
  exact RE.retB rfl ⟨b4, b3, b5, rfl, rfl⟩ (hS.pick [1, 2, 0, 3] (by decide) rfl)
end Go.Proofs

/- Layer 11 itself: what round yields. -/
namespace Go.Proofs
open Go Go.Gx
variable {oo : World}

theorem prOrdTo_prefix (np : Nat) (proc draw : Int) (k : Nat) : ∀ m, prOrdTo np proc draw k <+: prOrdTo np proc draw (k + m)
  | 0 => List.prefix_refl _
  | m + 1 => by
    rw [show k + (m + 1) = (k + m) + 1 by omega, prOrdTo_succ]
    exact (prOrdTo_prefix np proc draw k m).trans (List.prefix_append _ _)
theorem prOrdTo_get {np : Nat} {proc draw : Int} {k : Nat} (hk : k < np) (hne : prNth np proc draw k ≠ proc) : ∃ h : (prOrdTo np proc draw k).length < (prOrd np proc draw).length, (prOrd np proc draw)[(prOrdTo np proc draw k).length] = prNth np proc draw k := by
  obtain ⟨t, ht⟩ := prOrdTo_prefix np proc draw (k + 1) (np - (k + 1))
  rw [show k + 1 + (np - (k + 1)) = np by omega, prOrdTo_succ, if_pos hne] at ht
  have e : prOrd np proc draw = prOrdTo np proc draw k ++ prNth np proc draw k :: t := by rw [prOrd, ← ht]; simp
  refine ⟨by rw [e, List.length_append, List.length_cons]; omega, ?_⟩
  simp only [e]
  rw [List.getElem_append_right (Nat.le_refl _)]
  simp
theorem prOrd_01 (np : Nat) (proc draw : Int) : ∃ (h0 : 0 < (prOrd np proc draw).length) (h1 : 1 < (prOrd np proc draw).length), (prOrd np proc draw)[0] = proc ∧ (prOrd np proc draw)[1] = (np : Int) := by
  have e : prOrd np proc draw = proc :: ((np : Int) :: ((List.range np).map (prNth np proc draw)).filter fun q => decide (q ≠ proc)) := rfl
  refine ⟨by rw [e]; simp, by rw [e]; simp, ?_, ?_⟩ <;> simp [e]

set_option maxHeartbeats 2000000 in
theorem prRound1 (b np nt : Nat) (queue B : Int) (L : List (List KItem)) (proc draw : Int) (hpr : 0 ≤ proc ∧ proc < np) (hdr : 0 ≤ draw ∧ draw ≤ 18446744073709551615) (b1 b2 b3 : Nat) : It Try.prog 66 #[.pointer (some ⟨b1, 0, none⟩), .pointer (some ⟨b2, 0, none⟩), .pointer (some ⟨b3, 0, none⟩)]
    [pt b1 (.cells #[.int .i64 proc] 3 (0, 0)), pt b2 (.cells #[.pointer (some ⟨b, 0, none⟩)] 24 (0, 0)), pt b3 (.cells #[.int .u64 draw] 29 (0, 0)), pO (.pointer (some ⟨b, 0, none⟩)) np nt queue B L] ((prOrd np proc draw).map fun i => #[.int .i64 i]) := by
  refine It.enter Try.func66 rfl (Nat.le_of_ble_eq_true rfl) ?_
  intro oo lY J X w hY hS
  change RC _ _ _ _ _ _ [(0, _), (1, _), (2, _), (3, _)] _
  refine RC.seq ?_
  refine RC.seq ?_
  refine RC.region rfl ?_
  refine RL.q (Qt.mv rfl) ?_
  refine RL.q (Qt.ld rfl (by exact hS.at 0 rfl) (by first  | rfl)) ?_
  obtain ⟨g0, g1, e0, e1⟩ := prOrd_01 np proc draw
  have hy0 := hY 0 (by simpa using g0) w hS
  rw [List.getElem_map, e0] at hy0
  refine RL.e (Ef.yield rfl rfl hy0) ?_ (Runs.plain rfl)
  rintro v11 w hv
  rcases hv with ⟨rfl, hS⟩ | ⟨rfl, hS⟩
  · skip
    obtain ⟨b', r, sp, cap, vs, es, hbb, hp, hv, ha, hnp, hnt, hS⟩ := pO_open (hS.pick [3, 0, 1, 2, 4] (by decide) rfl)
    cases hbb
    refine RL.q (Qt.not rfl) ?_
    refine RL.q (Qt.mv rfl) ?_
    refine RL.q (Qt.mv rfl) ?_ (Runs.guard rfl rfl rfl (rfl))
    refine RL.q (Qt.ld rfl (by exact hS.at 5 rfl) (by first  | rfl)) ?_ (Runs.guard rfl rfl rfl (rfl))
    refine RL.q (Qt.nil rfl) ?_ (Runs.guard rfl rfl rfl (rfl))
    refine RL.q (Qt.fld rfl) ?_ (Runs.guard rfl rfl rfl (rfl))
    refine RL.q (Qt.ld rfl (by exact hS.at 0 rfl) (by first  | rfl)) ?_ (Runs.guard rfl rfl rfl (rfl))
    have hS := (pO_shut hp hv ha hnp hnt hS).pick [1, 2, 3, 0, 4] (by decide) rfl
    have hy1 := hY 1 (by simpa using g1) w hS
    rw [List.getElem_map, e1] at hy1
    refine RL.e (Ef.yield rfl rfl hy1) ?_ (Runs.guard rfl rfl rfl rfl)
    rintro v19 w hv2
    rcases hv2 with ⟨rfl, hS⟩ | ⟨rfl, hS⟩
    · skip
      obtain ⟨b', r, sp, cap, vs, es, hbb, hp, hv, ha, hnp, hnt, hS⟩ := pO_open (hS.pick [3, 0, 1, 2, 4] (by decide) rfl)
      cases hbb
      have hm0 : 0 ≤ draw % (np : Int) := Int.emod_nonneg _ (by omega)
      have hm1 : draw % (np : Int) < np := Int.emod_lt_of_pos _ (by omega)
      refine RL.q (Qt.not rfl) ?_ (Runs.guard rfl rfl rfl (rfl))
      refine RL.q ((by exact Qt.pickF rfl rfl rfl)) ?_
      refine RL.nil ?_
      refine RE.sqN ?_
      refine RC.condF rfl (rfl) ?_
      refine RC.skip ?_
      refine RE.sqN ?_
      refine RC.seq ?_
      refine RC.region rfl ?_
      refine RL.q (Qt.ld rfl (by exact hS.at 5 rfl) (by first  | rfl)) ?_
      refine RL.q (Qt.nil rfl) ?_
      refine RL.q (Qt.fld rfl) ?_
      refine RL.q (Qt.ld rfl (by exact hS.at 0 rfl) (by first  | rfl)) ?_
      refine RL.q (Qt.as rfl) ?_
      refine RL.nil ?_
      refine RE.sqN ?_
      refine RC.seq ?_
      refine RC.drawn 9 [0, 1, 2, 3, 4, 5, 6, 7, 8] (Same _) (by kernel_rfl) (by kernel_rfl) Same.drew (fun hh => ?_)
      replace hS := hS.drew
      refine RH.q hh (Calm.sq Calm.body) rfl (by kernel_rfl) (Qt.ld rfl (by exact hS.at 4 rfl) (by first  | rfl)) ?_
      refine RH.q hh (Calm.sq Calm.body) rfl (by kernel_rfl) ((by exact Qt.addI rfl rfl (by dsimp only [inK]; omega))) ?_
      refine RH.q hh (Calm.sq Calm.body) rfl (by kernel_rfl) (Qt.ld rfl (by exact hS.at 6 rfl) (by first  | rfl)) ?_
      refine RH.q hh (Calm.sq Calm.body) rfl (by kernel_rfl) (Qt.mv rfl) ?_
      refine RH.q hh (Calm.sq Calm.body) rfl (by kernel_rfl) ((by exact Qt.cvtI rfl (by dsimp only [inK]; omega))) ?_
      refine RH.q hh (Calm.sq Calm.body) rfl (by kernel_rfl) ((by exact Qt.remI rfl rfl (by omega))) ?_
      refine RH.q hh (Calm.sq Calm.body) rfl (by kernel_rfl) ((by exact Qt.cvtI rfl (by dsimp only [inK]; omega))) ?_
      refine RH.q hh (Calm.sq Calm.body) rfl (by kernel_rfl) ((by exact Qt.addI rfl rfl (by dsimp only [inK]; omega))) ?_
      refine RH.q hh (Calm.sq Calm.body) rfl (by kernel_rfl) (Qt.as rfl) ?_
      refine RH.done hh (by kernel_rfl) ?_
      refine RL.nil ?_
      refine RE.sqN ?_
      refine RC.seq ?_
      refine RC.region rfl ?_
      refine RL.q (Qt.mv rfl) ?_
      refine RL.q (Qt.mv rfl) ?_
      refine RL.nil ?_
      refine RE.sqN ?_
      refine RC.block ?_
      have hS := (pO_shut hp hv ha hnp hnt hS).pick [1, 2, 3, 0, 4] (by decide) rfl
      refine RC.loop (γ := Nat) (fun k E w' => E = [(35, .int .i64 k), (34, .int .i64 np), (5, .int .i64 np), (6, .int .i64 (proc + 1 + draw % np)), (0, .func (.yield lY) #[] #[]), (1, .pointer (some ⟨b1, 0, none⟩))] ∧ Sat oo w' [pt b1 (.cells #[.int .i64 proc] 3 (0, 0)), pt b2 (.cells #[.pointer (some ⟨b, 0, none⟩)] 24 (0, 0)), pt b3 (.cells #[.int .u64 draw] 29 (0, 0)), pO (.pointer (some ⟨b, 0, none⟩)) np nt queue B L, J (prOrdTo np proc draw k).length] ∧ k ≤ np) (fun k => np - k) 0 _ (by (repeat (first | exact Sub.nil | refine Sub.cons rfl ?_))) ⟨rfl, hS, by omega⟩ ?_
      clear hS
      rintro k E w ⟨rfl, hS, hk⟩
      refine RC.seq ?_
      refine RC.region rfl ?_
      refine RL.q (Qt.lss rfl rfl) ?_
      refine RL.nil ?_
      refine RE.sqN ?_
      refine RC.seq ?_
      refine RC.cond rfl (fun h => ?_) (fun h => ?_)
      · skip
        have hlt : k < np := by simpa using h
        refine RC.skip ?_
        refine RE.sqN ?_
        refine RC.seq ?_
        refine RC.block ?_
        refine RC.seq ?_
        refine RC.region rfl ?_
        refine RL.q (Qt.mv rfl) ?_
        refine RL.q (Qt.as rfl) ?_
        refine RL.nil ?_
        refine RE.sqN ?_
        refine RC.seq ?_
        refine RC.region rfl ?_
        refine RL.q (Qt.mv rfl) ?_
        refine RL.q (Qt.mv rfl) ?_
        refine RL.q ((by exact Qt.addI rfl rfl (by dsimp only [inK]; omega))) ?_
        refine RL.q (Qt.mv rfl) ?_
        refine RL.q ((by exact Qt.remI rfl rfl (by omega))) ?_
        refine RL.q (Qt.as rfl) ?_
        refine RL.nil ?_
        refine RE.sqN ?_
        refine RC.seq ?_
        refine RC.region rfl ?_
        refine RL.q (Qt.mv rfl) ?_
        refine RL.q (Qt.ld rfl (by exact hS.at 0 rfl) (by first  | rfl)) ?_
        refine RL.q (Qt.neq rfl rfl) ?_
        refine RL.q (Qt.mv rfl) ?_
        by_cases h3 : prNth np proc draw k ≠ proc
        · have hg : decide (prNth np proc draw k ≠ proc) = true := decide_eq_true h3
          obtain ⟨hml, hme⟩ := prOrdTo_get hlt h3
          have hsu := prOrdTo_succ np proc draw k
          rw [if_pos h3] at hsu
          have hyk := hY (prOrdTo np proc draw k).length (by simpa using hml) w hS
          rw [List.getElem_map, hme] at hyk
          refine RL.q (Qt.mv rfl) ?_ (Runs.guard rfl rfl rfl (hg))
          refine RL.q (Qt.mv rfl) ?_ (Runs.guard rfl rfl rfl (hg))
          refine RL.e (Ef.yield rfl rfl hyk) ?_ (Runs.guard rfl rfl rfl hg)
          rintro v49 w hv3
          rcases hv3 with ⟨rfl, hS⟩ | ⟨rfl, hS⟩
          · skip
            refine RL.q (Qt.not rfl) ?_ (Runs.guard rfl rfl rfl (hg))
            refine RL.q ((by exact Qt.pickT rfl (by assumption) rfl)) ?_
            refine RL.nil ?_
            refine RE.sqN ?_
            refine RC.condF rfl (rfl) ?_
            refine RC.skip ?_
            refine RE.bkN ?_
            refine RE.sqN ?_
            refine RC.region rfl ?_
            refine RL.q ((by exact Qt.addI rfl rfl (by dsimp only [inK]; omega))) ?_
            refine RL.q (Qt.mv rfl) ?_
            refine RL.nil ?_
            apply RE.lpN (k + 1)
            case hI => exact ⟨rfl, by rw [hsu, List.length_append]; exact hS, hlt⟩
            case hs => (repeat (first | exact Sub.nil | refine Sub.cons rfl ?_))
            case hm =>
              show np - (k + 1) < np - k
              omega
          · skip
            refine RL.q (Qt.not rfl) ?_ (Runs.guard rfl rfl rfl (hg))
            refine RL.q ((by exact Qt.pickT rfl (by assumption) rfl)) ?_
            refine RL.nil ?_
            refine RE.sqN ?_
            refine RC.condT rfl (rfl) ?_
            refine RC.ret ?_
            refine RE.bkR ?_
            refine RE.sqR ?_
            refine RE.lpR ?_
            refine RE.bkR ?_
            exact RE.retI rfl (.inr hS)
        · have hg : decide (prNth np proc draw k ≠ proc) = false := decide_eq_false h3
          have hsu := prOrdTo_succ np proc draw k
          rw [if_neg h3, List.append_nil] at hsu
          refine RL.s (Skips.guard rfl rfl rfl (hg)) ?_
          refine RL.s (Skips.guard rfl rfl rfl (hg)) ?_
          refine RL.s (Skips.guard rfl rfl rfl (hg)) ?_
          refine RL.s (Skips.guard rfl rfl rfl (hg)) ?_
          refine RL.q ((by exact Qt.pickF rfl (by assumption) rfl)) ?_
          refine RL.nil ?_
          refine RE.sqN ?_
          refine RC.condF rfl (rfl) ?_
          refine RC.skip ?_
          refine RE.bkN ?_
          refine RE.sqN ?_
          refine RC.region rfl ?_
          refine RL.q ((by exact Qt.addI rfl rfl (by dsimp only [inK]; omega))) ?_
          refine RL.q (Qt.mv rfl) ?_
          refine RL.nil ?_
          apply RE.lpN (k + 1)
          case hI => exact ⟨rfl, by rw [hsu]; exact hS, hlt⟩
          case hs => (repeat (first | exact Sub.nil | refine Sub.cons rfl ?_))
          case hm =>
            show np - (k + 1) < np - k
            omega
      · refine RC.exit ?_
        refine RE.sqX ?_
        refine RE.lpX ?_
        refine RE.bkX ?_
        have hge : k = np := by
          have : ¬ k < np := by simpa using h
          omega
        subst hge
        exact RE.endI rfl (.inl (by rw [List.length_map]; exact hS))
    · skip
      refine RL.q (Qt.not rfl) ?_ (Runs.guard rfl rfl rfl (rfl))
      refine RL.q ((by exact Qt.pickF rfl rfl rfl)) ?_
      refine RL.nil ?_
      refine RE.sqN ?_
      refine RC.condT rfl (rfl) ?_
      refine RC.ret ?_
      refine RE.sqR ?_
      exact RE.retI rfl (.inr hS)
  · skip
    refine RL.q (Qt.not rfl) ?_
    refine RL.q (Qt.mv rfl) ?_
    refine RL.s (Skips.guard rfl rfl rfl (rfl)) ?_
    refine RL.s (Skips.guard rfl rfl rfl (rfl)) ?_
    refine RL.s (Skips.guard rfl rfl rfl (rfl)) ?_
    refine RL.s (Skips.guard rfl rfl rfl (rfl)) ?_
    refine RL.s (Skips.guard rfl rfl rfl (rfl)) ?_
    refine RL.s (Skips.guard rfl rfl rfl (rfl)) ?_
    refine RL.s (Skips.guard rfl rfl rfl (rfl)) ?_
    refine RL.q ((by exact Qt.pickT rfl rfl rfl)) ?_
    refine RL.nil ?_
    refine RE.sqN ?_
    refine RC.condT rfl (rfl) ?_
    refine RC.ret ?_
    refine RE.sqR ?_
    exact RE.retI rfl (.inr hS)
end Go.Proofs

/- What a processor would take is the most urgent of all places; what a take and a deed leave. No program stands here. -/
namespace Go.Proofs
open Go Go.Gx
variable {np nt : Nat} {L : List (List KItem)}

theorem kEq_of_not {a b : KKey} (ha : kRight a = true) (hb : kRight b = true) (h : kAbove a b = false) (g : kAbove b a = false) : a = b := by
  obtain ⟨e, d, v⟩ := a; obtain ⟨e', d', v'⟩ := b
  cases e <;> cases e' <;> simp [kAbove, kRight] at ha hb h g ⊢ <;> omega

theorem prOrd_all (h : 1 ≤ np) (proc draw : Int) {q : Int} (hq : 0 ≤ q ∧ q < np + 1) : q ∈ prOrd np proc draw := by
  unfold prOrd prOrdTo
  by_cases h1 : q = proc
  · subst h1; simp
  by_cases h2 : q = np
  · subst h2; simp
  have hm0 := Int.emod_nonneg (q - (proc + 1 + draw % np)) (b := (np : Int)) (by omega)
  have hm1 := Int.emod_lt_of_pos (q - (proc + 1 + draw % np)) (b := (np : Int)) (by omega)
  refine List.mem_append.2 (.inr (List.mem_filter.2 ⟨List.mem_map.2 ⟨((q - (proc + 1 + draw % np)) % np).toNat, List.mem_range.2 (by omega), ?_⟩, by simpa using h1⟩))
  unfold prNth
  rw [Int.toNat_of_nonneg hm0, Int.add_emod_emod, show proc + 1 + draw % ↑np + (q - (proc + 1 + draw % ↑np)) = q by omega]
  exact Int.emod_eq_of_lt hq.1 (by omega)

def PMax (L : List (List KItem)) (best : Int) (seen : List Int) : Prop := (∀ q ∈ seen, L.getD q.toNat [] ≠ [] → 0 ≤ best ∧ kAbove (kTopK (L.getD q.toNat [])) (kTopK (L.getD best.toNat [])) = false) ∧ (0 ≤ best → L.getD best.toNat [] ≠ [])
theorem PMax.step {best q : Int} {seen : List Int} (hq : 0 ≤ q) (h : PMax L best seen) : PMax L (prStep L best q) (seen ++ [q]) := by
  obtain ⟨h1, h2⟩ := h
  unfold prStep
  by_cases a : L.getD q.toNat [] = []
  · rw [if_pos a]
    refine ⟨fun r hr hne => ?_, h2⟩
    rcases List.mem_append.1 hr with hr | hr
    · exact h1 r hr hne
    · rw [List.mem_singleton.1 hr] at hne; exact absurd a hne
  · rw [if_neg a]
    by_cases b : best < 0
    · rw [if_pos b]
      refine ⟨fun r hr hne => ?_, fun _ => a⟩
      rcases List.mem_append.1 hr with hr | hr
      · have := (h1 r hr hne).1; omega
      · rw [List.mem_singleton.1 hr]; exact ⟨hq, kAbove_irrefl _⟩
    · rw [if_neg b]
      by_cases c : kAbove (kTopK (L.getD q.toNat [])) (kTopK (L.getD best.toNat [])) = true
      · rw [if_pos c]
        refine ⟨fun r hr hne => ?_, fun _ => a⟩
        rcases List.mem_append.1 hr with hr | hr
        · exact ⟨hq, kNot_trans (kAbove_asymm c) (h1 r hr hne).2⟩
        · rw [List.mem_singleton.1 hr]; exact ⟨hq, kAbove_irrefl _⟩
      · rw [if_neg c]
        refine ⟨fun r hr hne => ?_, h2⟩
        rcases List.mem_append.1 hr with hr | hr
        · exact h1 r hr hne
        · rw [List.mem_singleton.1 hr]; exact ⟨by omega, by simpa using c⟩
theorem PMax.fold : ∀ (os seen : List Int) (b0 : Int), (∀ q ∈ os, 0 ≤ q) → PMax L b0 seen → PMax L (os.foldl (prStep L) b0) (seen ++ os)
  | [], seen, _, _, h => by simpa using h
  | q :: t, seen, b0, hq, h => by
    rw [List.foldl_cons, show seen ++ q :: t = (seen ++ [q]) ++ t by simp]
    exact PMax.fold t _ _ (fun x hx => hq x (List.mem_cons_of_mem _ hx)) (h.step (hq q (by simp)))
theorem prB_max (h1 : 1 ≤ np) {proc : Int} (hp : 0 ≤ proc ∧ proc < np) (draw : Int) {q : Int} (hq : 0 ≤ q ∧ q < np + 1) (hne : L.getD q.toNat [] ≠ []) : 0 ≤ prB L np proc draw ∧ kAbove (kTopK (L.getD q.toNat [])) (kTopK (L.getD (prB L np proc draw).toNat [])) = false := by
  have e : prB L np proc draw = (prOrd np proc draw).foldl (prStep L) (-1) := if_neg (by omega)
  rw [e]
  have := PMax.fold (L := L) (prOrd np proc draw) [] (-1) (fun q hq => (prOrdTo_range h1 hp np q hq).1) ⟨by simp, by intro h; omega⟩
  exact this.1 q (by simpa using prOrd_all h1 proc draw hq) hne
/-- Its own goes first. -/
def POwn (L : List (List KItem)) (proc best : Int) : Prop := best = proc ∨ (0 ≤ best ∧ kAbove (kTopK (L.getD best.toNat [])) (kTopK (L.getD proc.toNat [])) = true)
theorem POwn.step {proc best q : Int} (hq : 0 ≤ q) (hp : 0 ≤ proc) (h : POwn L proc best) : POwn L proc (prStep L best q) := by
  unfold prStep
  split
  · exact h
  · split
    · rcases h with h | h <;> omega
    · split
      · rename_i c
        rcases h with h | h
        · rw [h] at c; exact .inr ⟨hq, c⟩
        · exact .inr ⟨hq, kAbove_trans c (kAbove_asymm h.2)⟩
      · exact h
theorem POwn.fold {proc : Int} (hp : 0 ≤ proc) : ∀ (os : List Int) (b0 : Int), (∀ q ∈ os, 0 ≤ q) → POwn L proc b0 → POwn L proc (os.foldl (prStep L) b0)
  | [], _, _, h => h
  | q :: t, b0, hq, h => by
    rw [List.foldl_cons]
    exact POwn.fold hp t _ (fun x hx => hq x (List.mem_cons_of_mem _ hx)) (h.step (hq q (by simp)) hp)
theorem prB_own (h1 : 1 ≤ np) {proc : Int} (hp : 0 ≤ proc ∧ proc < np) (draw : Int) (hne : L.getD proc.toNat [] ≠ []) (hk : kTopK (L.getD proc.toNat []) = kTopK (L.getD (prB L np proc draw).toNat [])) : prB L np proc draw = proc := by
  have e : prB L np proc draw = (prOrd np proc draw).foldl (prStep L) (-1) := if_neg (by omega)
  rw [e] at hk ⊢
  have e2 : prOrd np proc draw = proc :: ((np : Int) :: ((List.range np).map (prNth np proc draw)).filter fun q => decide (q ≠ proc)) := rfl
  have hr : ∀ q ∈ prOrd np proc draw, 0 ≤ q := fun q hq => (prOrdTo_range h1 hp np q hq).1
  rw [e2] at hk hr ⊢
  rw [List.foldl_cons] at hk ⊢
  have e3 : prStep L (-1) proc = proc := by rw [prStep, if_neg hne, if_pos (by decide)]
  rw [e3] at hk ⊢
  rcases POwn.fold (L := L) hp.1 _ proc (fun q hq => hr q (List.mem_cons_of_mem _ hq)) (.inl rfl) with h | h
  · exact h
  · rw [← hk, kAbove_irrefl] at h; cases h.2

theorem prB_mod (proc draw : Int) : prB L np proc (draw % np) = prB L np proc draw := by
  unfold prB prOrd prOrdTo
  have : prNth np proc (draw % np) = prNth np proc draw := by
    funext i
    unfold prNth
    rw [Int.emod_emod_of_dvd _ (Int.dvd_refl _)]
  rw [this]
theorem PrOk.topRight (hp : PrOk np nt L) {q : Int} (hne : L.getD q.toNat [] ≠ []) : kRight (kTopK (L.getD q.toNat [])) = true ∧ q.toNat < L.length := by
  have hlt : q.toNat < L.length := by
    rcases Nat.lt_or_ge q.toNat L.length with h | h
    · exact h
    · rw [List.getD_eq_getElem?_getD, List.getElem?_eq_none h] at hne; exact absurd rfl hne
  rw [getD_at hlt] at hne ⊢
  have h := hp.at hlt
  refine ⟨?_, hlt⟩
  cases e : L[q.toNat] with
  | nil => exact absurd e hne
  | cons x t => rw [e] at h; exact h.right x (by simp)
/-- What is drawn plays no part for how urgent what is taken is. -/
theorem prB_draws (hp : PrOk np nt L) (h1 : 1 ≤ np) (proc d d' : Int) : prBK L (prB L np proc d) = prBK L (prB L np proc d') ∧ prBOk (prB L np proc d) = prBOk (prB L np proc d') := by
  by_cases hpr : proc < 0 ∨ proc ≥ np
  · have e : ∀ d, prB L np proc d = -1 := fun d => if_pos hpr
    rw [e, e]; exact ⟨rfl, rfl⟩
  · have hpr : 0 ≤ proc ∧ proc < np := by omega
    have key : ∀ d d', 0 ≤ prB L np proc d → 0 ≤ prB L np proc d' ∧ kAbove (kTopK (L.getD (prB L np proc d).toNat [])) (kTopK (L.getD (prB L np proc d').toNat [])) = false := fun d d' h => by
      obtain ⟨g0, g1, g2⟩ := (prB_range (L := L) h1 proc d).resolve_left (by omega)
      exact prB_max h1 hpr d' ⟨g0, g1⟩ g2
    by_cases h : 0 ≤ prB L np proc d
    · obtain ⟨a1, a2⟩ := key d d' h
      obtain ⟨_, b2⟩ := key d' d a1
      obtain ⟨_, _, g2⟩ := (prB_range (L := L) h1 proc d).resolve_left (by omega)
      obtain ⟨_, _, g2'⟩ := (prB_range (L := L) h1 proc d').resolve_left (by omega)
      refine ⟨?_, by simp [prBOk, h, a1]⟩
      rw [prBK, prBK, if_neg (by omega), if_neg (by omega)]
      exact kEq_of_not (hp.topRight g2).1 (hp.topRight g2').1 a2 b2
    · have h' : ¬ 0 ≤ prB L np proc d' := fun e => h (key d' d e).1
      refine ⟨?_, by simp [prBOk, h, h']⟩
      rw [prBK, prBK, if_pos (by omega), if_pos (by omega)]

theorem prTake_rem (hp : PrOk np nt L) {b : Int} (hb : 0 ≤ b) (hne : L.getD b.toNat [] ≠ []) :
    prErr L nt (prBId L b) true true = 0 ∧ prRem L nt (prBId L b) = prTake L b ∧ pwOk (prTake L b) (prBId L b) = false ∧ prLen (prTake L b) = prLen L - 1 ∧ pwOk L (prBId L b) = true ∧ pwAt L (prBId L b) = b := by
  obtain ⟨_, hlt⟩ := hp.topRight hne
  rw [getD_at hlt] at hne
  have eid : prBId L b = kTopId L[b.toNat] := by rw [prBId, if_neg (by omega), getD_at hlt]
  rw [eid]
  have hk := hp.at hlt
  have et : prTake L b = L.set b.toNat L[b.toNat].tail := by rw [prTake, if_neg (by omega), prUpd_at hlt]
  cases e : L[b.toNat] with
  | nil => exact absurd e hne
  | cons x t =>
    rw [e] at hk et
    have ex : kTopId (x :: t) = x.id := rfl
    rw [ex]
    have hm : x.id ∈ kIds L[b.toNat] := by rw [e]; simp [kIds]
    have hpw := hp.pw_some hlt hm
    have hok : pwOk L x.id = true := by rw [pwOk, hpw]; rfl
    have hat : pwAt L x.id = b := by rw [pwAt, hpw]; show ((b.toNat : Nat) : Int) = b; omega
    have hr := hk.range x (by simp)
    have he : prErr L nt x.id true true = 0 := prErr_ok1 (by simp; omega) hok
    refine ⟨he, ?_, ?_, ?_, hok, hat⟩
    · rw [prRem, if_pos he, hat, prUpd_at hlt, et, e, kout_head hk.nodup]; rfl
    · rw [et]
      cases hq : pwOk (L.set b.toNat (x :: t).tail) x.id with
      | false => rfl
      | true =>
        exfalso
        obtain ⟨l, hl, hml⟩ := pwOk_iff.1 hq
        obtain ⟨j, hj, rfl⟩ := List.getElem_of_mem hl
        rw [List.length_set] at hj
        rw [List.getElem_set] at hml
        by_cases ej : b.toNat = j
        · rw [if_pos ej] at hml
          have := hk.nodup
          simp only [kIds, List.map_cons, List.nodup_cons] at this
          exact this.1 hml
        · rw [if_neg ej] at hml
          exact ej (hp.apart _ j hlt hj x.id hm hml)
    · rw [et, prLen_set hlt, e]
      simp only [List.tail_cons, List.length_cons]
      omega

/-! ### a deed -/
structure ODeed where
  kind : Int
  proc : Int
  id : Int
  k : KKey
  draw : Int
deriving Inhabited
def ODeed.cells (x : ODeed) : List Value := [.int .i64 x.kind, .int .i64 x.proc, .int .i64 x.id, .bool x.k.edf, .int .u64 x.k.dl, .int .u8 x.k.lv, .int .u64 x.draw]
def ODeed.val (x : ODeed) : Value := .agg x.cells.toArray
def ODeed.ok (x : ODeed) : Prop := x.k.ok ∧ 0 ≤ x.draw ∧ x.draw ≤ 18446744073709551615
def prDo (L : List (List KItem)) (np nt : Nat) (queue : Int) (x : ODeed) : List (List KItem) := if x.kind = 0 then prPut L np nt queue x.proc x.id x.k else if x.kind = 1 then prChg L nt x.id x.k else if x.kind = 2 then prRem L nt x.id else if x.kind = 3 then prTake L (prB L np x.proc x.draw) else L

/-- A processor's place has never more than it may. -/
def PrRoom (np : Nat) (queue : Int) (L : List (List KItem)) : Prop := ∀ (i : Nat) (hi : i < L.length), i < np → (L[i].length : Int) ≤ queue
theorem PrRoom.set {queue : Int} (h : PrRoom np queue L) {i : Nat} (hi : i < L.length) {l : List KItem} (hl : i < np → (l.length : Int) ≤ queue) : PrRoom np queue (L.set i l) := by
  intro j hj hjn
  rw [List.length_set] at hj
  rw [List.getElem_set]
  split
  · subst_vars; exact hl hjn
  · exact h j hj hjn
theorem PrRoom.upd {queue : Int} (h : PrRoom np queue L) {i : Nat} {f : List KItem → List KItem} (hf : ∀ (hi : i < L.length), (f L[i]).length ≤ L[i].length) : PrRoom np queue (prUpd L i f) := by
  by_cases hlt : i < L.length
  · rw [prUpd_at hlt]
    refine h.set hlt fun hn => ?_
    have h1 := h i hlt hn
    have h2 := hf hlt
    omega
  · unfold prUpd
    rw [List.set_eq_of_length_le (by omega)]; exact h
theorem prPutErr_is0 {queue : Int} {proc id : Int} {k : KKey} (h : prPutErr L np nt proc id k = 0) : (0 ≤ proc ∧ proc < np) ∧ kRight k = true ∧ (0 ≤ id ∧ id < nt) ∧ pwOk L id = false := by
  unfold prPutErr prErr at h
  split at h
  · cases h
  · rename_i h1
    split at h
    · cases h
    · split at h
      · cases h
      · rename_i h2 h3
        have hri : (prIs np proc && kRight k) = true := by simpa using fun e => h1 (.inr (.inr e))
        simp only [prIs, Bool.and_eq_true, decide_eq_true_eq] at hri
        refine ⟨hri.1, hri.2, by omega, ?_⟩
        cases hq : pwOk L id with
        | false => rfl
        | true => exact absurd ⟨rfl, hq⟩ h3
theorem PrRoom.do {queue : Int} (hp : PrOk np nt L) (h : PrRoom np queue L) (x : ODeed) : PrRoom np queue (prDo L np nt queue x) := by
  unfold prDo
  split
  · unfold prPut; split
    · rename_i he
      obtain ⟨h1, _, _, _⟩ := prPutErr_is0 (queue := queue) he
      have hlen := hp.len
      have hpl : x.proc.toNat < L.length := by omega
      unfold prTo
      rw [getD_at hpl]
      split
      · rw [prUpd_at (by omega)]
        exact h.set (by omega) fun e => by omega
      · rw [prUpd_at hpl]
        refine h.set hpl fun _ => ?_
        rw [kput_len]
        omega
    · exact h
  · split
    · unfold prChg; split
      · exact h.upd fun hi => Nat.le_of_eq (kChg_len (hp.at hi).nodup _ _)
      · exact h
    · split
      · unfold prRem; split
        · exact h.upd fun hi => List.length_filter_le _ _
        · exact h
      · split
        · unfold prTake; split
          · exact h
          · refine h.upd fun hi => ?_
            rw [List.length_tail]; omega
        · exact h
theorem PrRoom.empty {queue : Int} (hq : 0 ≤ queue) : PrRoom np queue (List.replicate (np + 1) []) := fun i hi _ => by
  rw [List.getElem_replicate]
  simpa using hq
end Go.Proofs

/- More of the engine: results that lie in cells of one word, and leaving a function that holds a range over a function with such results. Nothing of any program stands here. -/
namespace Go.Gx
open Go
variable {P : Program} {N : Nat} {oo : World} {w : World} {E : Env} {L : List HP}

/-- What a function's results come to at a return, some in cells. -/
inductive ResX (P : Program) (w : World) (E : Env) : List ResultVar → List Value → Prop where
  | nil : ResX P w E [] []
  | tmp {t : Nat} {v : Value} {rs : List ResultVar} {vs : List Value} (h : look E t = some v) (g : ResX P w E rs vs) : ResX P w E (.tmp t :: rs) (v :: vs)
  | one {r t b off n : Nat} {d : TypeDesc} {c : Array Value} {v : Value} {T : TypeId} {z : Nat × Nat} {rs : List ResultVar} {vs : List Value} (ht : TI P t d n) (hd : aggB d = false) (hl : look E r = some (.pointer (some ⟨b, off, none⟩)))
      (hk : w.heap[b]? = some (.cells c T z)) (hv : c.toList[off]? = some v) (g : ResX P w E rs vs) : ResX P w E (.cell r t :: rs) (v :: vs)
  | cell {r t b off n : Nat} {d : TypeDesc} {c cs : Array Value} {T : TypeId} {z : Nat × Nat} {rs : List ResultVar} {vs : List Value} (ht : TI P t d n) (hd : aggB d = true) (hl : look E r = some (.pointer (some ⟨b, off, none⟩)))
      (hk : w.heap[b]? = some (.cells c T z)) (hv : c.extract off (off + n) = cs) (hle : off + n ≤ c.size) (g : ResX P w E rs vs) : ResX P w E (.cell r t :: rs) (.agg cs :: vs)

theorem run_resX {a : Act} (ha : Knows a E) {rs : List ResultVar} {vs : List Value} (h : ResX P w E rs vs) (F : ResultVar → Sem Value) (hF : ∀ t, F (.tmp t) = pure (a.tmps.getD t undef)) (hC : ∀ r t, F (.cell r t) = (do loadVar t (← asAddr (a.tmps.getD r undef)))) :
    (rs.mapM F).run P w = .ok vs w := by
  induction h with
  | nil => simp
  | tmp h g ih =>
    rw [List.mapM_cons, hF]
    have h1 := ha _ _ h
    simp only [Sem.run_bind, Sem.run_pure, Result.andThen_ok, ih, h1]
  | @one r t b off n d c v T z rs vs ht hd hl hk hv g ih =>
    rw [List.mapM_cons, hC]
    have hv : c[off]? = some v := by simpa using hv
    have hc : w.cell? ⟨b, off, none⟩ = some v := (cell_of hk).trans hv
    have h2 := ha r _ hl
    have h3 : (loadVar t ⟨b, off, none⟩).run P w = .ok v w := by simp [loadVar, run_isAgg ht, hd, hc]
    have h4 : (asAddr (a.tmps.getD r undef)).run P w = .ok ⟨b, off, none⟩ w := by rw [h2]; simp [asAddr]
    simp only [Sem.run_bind, h4, Result.andThen_ok, h3, ih, Sem.run_pure]
  | @cell r t b off n d c cs T z rs vs ht hd hl hk hv hle g ih =>
    rw [List.mapM_cons, hC]
    have h1 := run_loadCellsFrom (P := P) hk off n 0 #[] (by omega)
    simp only [Nat.add_zero, Array.empty_append, hv] at h1
    have h2 := ha r _ hl
    have h3 : (loadVar t ⟨b, off, none⟩).run P w = .ok (.agg cs) w := by
      simp [loadVar, run_isAgg ht, hd, run_sizeOf ht, loadCells, h1]
    have h4 : (asAddr (a.tmps.getD r undef)).run P w = .ok ⟨b, off, none⟩ w := by rw [h2]; simp [asAddr]
    simp only [Sem.run_bind, h4, Result.andThen_ok, h3, ih, Sem.run_pure]

theorem run_resultsX {fn : Func} {a : Act} (ha : Knows a E) {vs : List Value} (h : ResX P w E fn.results.toList vs) : (results fn a.tmps).run P w = .ok (oneOf vs) w := by
  unfold results
  rw [Array.mapM_eq_mapM_toList, Sem.run_bind, Sem.run_map, run_resX ha h _ (fun _ => rfl) (fun _ _ => rfl)]
  simp only [Result.andThen_ok, Sem.run_pure]
  congr 1
  match vs with
  | [] => simp [oneOf]
  | [v] => simp [oneOf]
  | v :: u :: vs => simp [oneOf]

theorem RE.retX {fn : Func} {post : Value → List HP → Prop} {R : HP} {vs : List Value} {ps : List HP} (hr : ResX P w E fn.results.toList vs) (hp : post (oneOf vs) ps) (hS : Sat oo w (ps ++ [R])) : RE N [] (bodyP P fn (endR oo post R)) .ret E w := fun a ha => by
  show LeavesInM _ _ _ _ _ _ a.defers _ _
  rw [ha.defers]
  exact ⟨_, run_resultsX ha.knows hr, _, _, rfl, hp, hS⟩
/-- Leaving a function that holds one range over a function, its results in cells. -/
theorem RE.retMX {fn : Func} {post : Value → List HP → Prop} {R : HP} {vs : List Value} {ps : List HP} {k b : Nat} (hS : Sat oo w L) (hk : L[k]? = some (df b)) (hr : ∀ w, Sat oo w (L.set k (pt b (.deferred none))) → ResX P w E fn.results.toList vs) (hp : post (oneOf vs) ps) (s : List Nat) (hn : s.Nodup) (hs : selL (L.set k (pt b (.deferred none))) s = some (ps ++ [R])) : RE N [mk b] (bodyP P fn (endR oo post R)) .ret E w := fun a ha => by
  show LeavesInM _ _ _ _ _ _ a.defers _ _
  rw [ha.defers]
  refine ⟨by simp, .inl ⟨b, _, rfl, run_takeDeferred (hS.get k hk), ?_⟩⟩
  have h1 := hS.putObj (o' := .deferred none) hk
  exact ⟨_, run_resultsX ha.knows (hr _ h1), _, _, rfl, hp, h1.pick s hn hs⟩
end Go.Gx

/- Layer 11 itself: Best, Take. -/
namespace Go.Proofs
open Go Go.Gx
variable {oo : World}

set_option maxHeartbeats 1000000 in
theorem kyAbove (a b : KKey) : Ct Try.prog 20 #[.agg a.cells.toArray, .agg b.cells.toArray] [] (fun v ps => v = .bool (kAbove a b) ∧ ps = []) := by
  refine Ct.enter Try.func20 rfl (Nat.le_of_ble_eq_true rfl) ?_
  intro oo w R hS
  change RC _ _ _ _ _ _ [(0, _), (1, _)] _
  refine RC.seq ?_
  refine RC.region rfl ?_
  refine RL.e (Ef.box hS rfl) ?_
  rintro _ w ⟨b2, rfl, hS⟩
  try simp (disch := omega) only [cells_agg'] at hS
  refine RL.e (Ef.box hS rfl) ?_
  rintro _ w ⟨b3, rfl, hS⟩
  try simp (disch := omega) only [cells_agg'] at hS
  refine RL.q (Qt.as rfl) ?_
  refine RL.nil ?_
  refine RE.sqN ?_
  refine RC.seq ?_
  refine RC.block ?_
  refine RC.seq ?_
  refine RC.region rfl ?_
  refine RL.q (Qt.fld rfl) ?_
  refine RL.q (Qt.ld rfl (by exact hS.at 1 rfl) (by first  | rfl)) ?_
  refine RL.q (Qt.fld rfl) ?_
  refine RL.q (Qt.ld rfl (by exact hS.at 0 rfl) (by first  | rfl)) ?_
  refine RL.q (Qt.neqB rfl rfl) ?_
  refine RL.q (Qt.as rfl) ?_
  refine RL.nil ?_
  refine RE.sqN ?_
  refine RC.cond rfl (fun h => ?_) (fun h => ?_)
  · refine RC.seq ?_
    refine RC.region rfl ?_
    refine RL.q (Qt.fld rfl) ?_
    refine RL.q (Qt.ld rfl (by exact hS.at 1 rfl) (by first  | rfl)) ?_
    refine RL.q (Qt.as rfl) ?_
    refine RL.nil ?_
    refine RE.sqN ?_
    refine RC.ret ?_
    refine RE.bkR ?_
    refine RE.sqR ?_
    refine RE.retB rfl ⟨?_, rfl⟩ (hS.pick [2] (by decide) rfl)
    clear hS
    obtain ⟨e, d, v⟩ := a; obtain ⟨e', d', v'⟩ := b
    cases e <;> cases e' <;> simp_all [kAbove, oneOf]
  · refine RC.seq ?_
    refine RC.region rfl ?_
    refine RL.q (Qt.fld rfl) ?_
    refine RL.q (Qt.ld rfl (by exact hS.at 1 rfl) (by first  | rfl)) ?_
    refine RL.q (Qt.as rfl) ?_
    refine RL.nil ?_
    refine RE.sqN ?_
    refine RC.cond rfl (fun h2 => ?_) (fun h2 => ?_)
    · refine RC.seq ?_
      refine RC.region rfl ?_
      refine RL.q (Qt.fld rfl) ?_
      refine RL.q (Qt.ld rfl (by exact hS.at 1 rfl) (by first  | rfl)) ?_
      refine RL.q (Qt.fld rfl) ?_
      refine RL.q (Qt.ld rfl (by exact hS.at 0 rfl) (by first  | rfl)) ?_
      refine RL.q (Qt.lss rfl rfl) ?_
      refine RL.q (Qt.as rfl) ?_
      refine RL.nil ?_
      refine RE.sqN ?_
      refine RC.ret ?_
      refine RE.bkR ?_
      refine RE.sqR ?_
      refine RE.retB rfl ⟨?_, rfl⟩ (hS.pick [2] (by decide) rfl)
      clear hS
      obtain ⟨e, d, v⟩ := a; obtain ⟨e', d', v'⟩ := b
      cases e <;> cases e' <;> simp_all [kAbove, oneOf]
    · refine RC.skip ?_
      refine RE.bkN ?_
      refine RE.sqN ?_
      refine RC.seq ?_
      refine RC.region rfl ?_
      refine RL.q (Qt.fld rfl) ?_
      refine RL.q (Qt.ld rfl (by exact hS.at 1 rfl) (by first  | rfl)) ?_
      refine RL.q (Qt.fld rfl) ?_
      refine RL.q (Qt.ld rfl (by exact hS.at 0 rfl) (by first  | rfl)) ?_
      refine RL.q (Qt.gtr rfl rfl) ?_
      refine RL.q (Qt.as rfl) ?_
      refine RL.nil ?_
      refine RE.sqN ?_
      refine RC.ret ?_
      refine RE.retB rfl ⟨?_, rfl⟩ (hS.pick [2] (by decide) rfl)
      clear hS
      obtain ⟨e, d, v⟩ := a; obtain ⟨e', d', v'⟩ := b
      cases e <;> cases e' <;> simp_all [kAbove, oneOf]

set_option maxHeartbeats 4000000 in
theorem prBest (p : Value) (np nt : Nat) (queue B : Int) (L : List (List KItem)) (proc draw : Int) (hdr : 0 ≤ draw ∧ draw ≤ 18446744073709551615) : Ct Try.prog 18 #[p, .int .i64 proc, .int .u64 draw] [pO p np nt queue B L] (fun v ps => v = prBV L (prB L np proc draw) ∧ ps = [pO p np nt queue B L]) := by
  refine Ct.enter Try.func18 rfl (Nat.le_of_ble_eq_true rfl) ?_
  intro oo w R hS
  change RC _ _ _ _ _ _ [(0, _), (1, _), (2, _)] _
  obtain ⟨b, r0, sp0, cap0, vs0, es0, rfl, hp, hv0, ha0, hnp, hnt, hS⟩ := pO_open hS
  have hS := pO_shut hp hv0 ha0 hnp hnt hS
  have hlen := hp.len
  refine RC.seq ?_
  refine RC.region rfl ?_
  refine RL.e (Ef.box hS rfl) ?_
  rintro _ w ⟨b3, rfl, hS⟩
  try simp (disch := omega) only [cells_ptr'] at hS
  refine RL.e (Ef.alloc hS) ?_
  rintro _ w ⟨b6, rfl, hS⟩
  try simp (disch := omega) only [cells_int'] at hS
  refine RL.e (Ef.alloc hS) ?_
  rintro _ w ⟨b7, rfl, hS⟩
  try simp (disch := omega) only [cells_agg'] at hS
  refine RL.e (Ef.alloc hS) ?_
  rintro _ w ⟨b8, rfl, hS⟩
  try simp (disch := omega) only [cells_int'] at hS
  refine RL.e (Ef.alloc hS) ?_
  rintro _ w ⟨b9, rfl, hS⟩
  try simp (disch := omega) only [cells_bool'] at hS
  refine RL.nil ?_
  refine RE.sqN ?_
  refine RC.scope ?_
  refine RC.seq ?_
  refine RC.seq ?_
  refine RC.region rfl ?_
  refine RL.q (Qt.ld rfl (by exact hS.at 4 rfl) (by first  | rfl)) ?_
  refine RL.q (Qt.mv rfl) ?_
  refine RL.e (Ef.call hS (prIsC _ np nt queue B L proc) rfl rfl Try.call38 [5] [0, 1, 2, 3, 4, 6] (by decide) rfl rfl) ?_
  rintro v16 w ⟨ps, ⟨rfl, rfl⟩, hS⟩
  refine RL.q (Qt.not rfl) ?_
  refine RL.nil ?_
  refine RE.sqN ?_
  refine RC.cond rfl (fun h => ?_) (fun h => ?_)
  · refine RC.seq ?_
    refine RC.region rfl ?_
    refine RL.q (Qt.bldV [.const (Go.Value.bool false), .const (Go.Value.int Go.IntKind.u64 0), .const (Go.Value.int Go.IntKind.u8 0)] rfl rfl (by kernel_rfl)) ?_
    refine RL.e0 (Ef.st hS 4 rfl rfl rfl (by rfl) (by rfl) (by exact Nat.le_of_ble_eq_true rfl)) ?_
    intro _ w hS
    simp (disch := omega) only [List.set_cons_zero, cells_int', wr, List.setIfInBounds_toArray] at hS
    refine RL.e0 (Ef.st hS 3 rfl rfl rfl (by rfl) (by rfl) (by exact Nat.le_of_ble_eq_true rfl)) ?_
    intro _ w hS
    simp (disch := omega) only [List.set_cons_zero, List.set_cons_succ, cells_agg', Nat.zero_add, wr, List.setIfInBounds_toArray] at hS
    refine RL.e0 (Ef.st hS 2 rfl rfl rfl (by rfl) (by rfl) (by exact Nat.le_of_ble_eq_true rfl)) ?_
    intro _ w hS
    simp (disch := omega) only [List.set_cons_zero, cells_int', wr, List.setIfInBounds_toArray] at hS
    refine RL.e0 (Ef.st hS 1 rfl rfl rfl (by rfl) (by rfl) (by exact Nat.le_of_ble_eq_true rfl)) ?_
    intro _ w hS
    simp (disch := omega) only [List.set_cons_zero, cells_bool', wr, List.setIfInBounds_toArray] at hS
    refine RL.nil ?_
    refine RE.sqN ?_
    refine RC.ret ?_
    refine RE.sqR ?_
    refine RE.scR ?_
    have h : prIs np proc = false := by simpa using h
    have hpr : proc < 0 ∨ proc ≥ np := by
      simp [prIs] at h
      omega
    have e : prB L np proc draw = -1 := if_pos hpr
    rw [e]
    exact RE.retX (vs := [.int .i64 0, .agg KKey.none.cells.toArray, .int .i64 0, .bool false]) (by repeat (first | exact ResX.nil | refine ResX.tmp rfl ?_ | refine ResX.one (by infer_instance) rfl rfl (by first | exact hS.get 0 rfl | exact hS.get 1 rfl | exact hS.get 2 rfl | exact hS.get 3 rfl | exact hS.get 4 rfl | exact hS.get 5 rfl | exact hS.get 6 rfl | exact hS.get 7 rfl | exact hS.get 8 rfl | exact hS.get 9 rfl | exact hS.get 10 rfl | exact hS.get 11 rfl) rfl ?_ | refine ResX.cell (by infer_instance) rfl rfl (by exact hS.get 3 rfl) rfl (Nat.le_of_ble_eq_true rfl) ?_)) ⟨rfl, rfl⟩ (hS.pick [0, 6] (by decide) rfl)
  · skip
    have h : prIs np proc = true := by simpa using h
    have hpr : 0 ≤ proc ∧ proc < np := by simpa [prIs] using h
    have eB : prB L np proc draw = (prOrd np proc draw).foldl (prStep L) (-1) := if_neg (by omega)
    rw [eB]
    refine RC.skip ?_
    refine RE.sqN ?_
    refine RC.seq ?_
    refine RC.label ?_
    refine RE.sqN ?_
    refine RC.seq ?_
    refine RC.seq ?_
    refine RC.region rfl ?_
    refine RL.q (Qt.ld rfl (by exact hS.at 5 rfl) (by first  | rfl)) ?_
    refine RL.q (Qt.mv rfl) ?_
    refine RL.q (Qt.mv rfl) ?_
    refine RL.e (Ef.call hS (prRound b proc draw) rfl rfl Try.call42 [] [0, 1, 2, 3, 4, 5, 6] (by decide) rfl rfl) ?_
    rintro v22 w ⟨ps, ⟨q1, q2, q3, rfl, rfl⟩, hS⟩
    refine RL.nil ?_
    refine RE.sqN ?_
    refine RC.block ?_
    have hwr : ∀ x y : KKey, wr x.cells.toArray 0 y.cells = y.cells.toArray := fun x y => rfl
    have hor := prOrdTo_range hnp.1 (draw := draw) hpr np
    have hbr : ∀ i : Nat, ((prOrd np proc draw).take i).foldl (prStep L) (-1) < 0 ∨ (0 ≤ ((prOrd np proc draw).take i).foldl (prStep L) (-1) ∧ ((prOrd np proc draw).take i).foldl (prStep L) (-1) < np + 1 ∧ L.getD (((prOrd np proc draw).take i).foldl (prStep L) (-1)).toNat [] ≠ []) := fun i => fold_range L _ _ (fun q hq => hor q (List.mem_of_mem_take hq)) (.inl (by decide))
    refine RC.rangeFn hS (prRound1 b np nt queue B L proc draw hpr hdr q1 q2 q3) rfl Try.call66 [0, 1, 2, 3] [4, 5, 6, 7, 8, 9] (by decide) rfl rfl (by simp) (by decide)
      (fun k => [pt b9 (.cells #[.bool (prBOk (((prOrd np proc draw).take k).foldl (prStep L) (-1)))] 4 (0, 0)), pt b8 (.cells #[.int .i64 (prBAt (((prOrd np proc draw).take k).foldl (prStep L) (-1)))] 3 (0, 0)), pt b7 (.cells (prBK L (((prOrd np proc draw).take k).foldl (prStep L) (-1))).cells.toArray 31 (0, 0)), pt b6 (.cells #[.int .i64 (prBId L (((prOrd np proc draw).take k).foldl (prStep L) (-1)))] 3 (0, 0)), pt b3 (.cells #[.pointer (some ⟨b, 0, none⟩)] 24 (0, 0)), R]) (by simp only [List.take_zero, List.foldl_nil]; rfl) (fun _ _ => False) ?_ ?_ (fun _ _ _ _ h => h.elim)
    · intro k hk l' b' r w hr hS
      have hlt : k < (prOrd np proc draw).length := by simpa using hk
      have hq := hor (prOrd np proc draw)[k] (List.getElem_mem hlt)
      have hqL : (prOrd np proc draw)[k].toNat < L.length := by omega
      have hst := fold_step L (prOrd np proc draw) hlt
      rw [prStep_def, getD_at hqL] at hst
      have hbri := hbr k
      rw [hst]
      rw [List.getElem_map]
      generalize hqq : (prOrd np proc draw)[k] = qq at *
      generalize hbb : ((prOrd np proc draw).take k).foldl (prStep L) (-1) = bb at *
      change RC _ _ _ _ _ _ ((23, .int .i64 qq) :: _) _
      obtain ⟨b', r', sp, cap, vs, es, hbp, hp, hv, ha, hnp, hnt, hS⟩ := pO_open (hS.pick [3, 0, 1, 2, 4, 5, 6, 7, 8, 9, 10, 11] (by decide) rfl)
      cases hbp
      have hqv : qq.toNat < vs.length := by omega
      obtain ⟨bs, cap', c, hv', hc1, hc2, hc3, hc4, hS⟩ := hS.ownPos 1 rfl (by omega)
      cases hv'
      have hS := Sat.objOut (f := pF nt B) hv hqL (hS.pick [2, 0, 1, 3, 4, 5, 6, 7, 8, 9, 10, 11, 12, 13, 14] (by decide) rfl)
      refine RC.region rfl ?_
      refine RL.q (Qt.as rfl) ?_
      refine RL.nil ?_
      refine RE.begin (k := 15) hS rfl hr.1 (fun w hS => ?_)
      simp only [List.set_cons_zero, List.set_cons_succ] at hS
      refine RC.block ?_
      refine RC.seq ?_
      refine RC.region rfl ?_
      refine RL.q (Qt.ld rfl (by exact hS.at 12 rfl) (by rfl)) ?_
      refine RL.q (Qt.nil rfl) ?_
      refine RL.q (Qt.fld rfl) ?_
      refine RL.q (Qt.ld rfl (by exact hS.at 2 rfl) (by rfl)) ?_
      refine RL.q (Qt.mv rfl) ?_
      refine RL.q (Qt.ixS rfl rfl (by omega) (by omega)) ?_
      refine RL.q (Qt.ld rfl (by exact hS.at 3 rfl) (by exact ptr_cell hc4 hqv (by omega))) ?_
      refine RL.e (Ef.call hS (rdTop vs[qq.toNat] nt nt B L[qq.toNat]) rfl rfl Try.call43 [0] [1, 2, 3, 4, 5, 6, 7, 8, 9, 10, 11, 12, 13, 14, 15] (by decide) rfl rfl) ?_
      rintro v32 w ⟨ps, ⟨rfl, rfl⟩, hS⟩
      refine RL.q (Qt.mv rfl) ?_
      refine RL.q (Qt.ext rfl rfl) ?_
      refine RL.q (Qt.ext rfl rfl) ?_
      refine RL.q (Qt.ext rfl rfl) ?_
      refine RL.e (Ef.alloc hS) ?_
      rintro _ w ⟨b12, rfl, hS⟩
      try simp (disch := omega) only [cells_agg'] at hS
      refine RL.q (Qt.as rfl) ?_
      refine RL.e0 (Ef.st hS 0 rfl rfl rfl (by rfl) (by rfl) (by exact Nat.le_of_ble_eq_true rfl)) ?_
      intro _ w hS
      simp (disch := omega) only [List.set_cons_zero, cells_agg'] at hS
      refine RL.q (Qt.as rfl) ?_
      refine RL.nil ?_
      refine RE.sqN ?_
      refine RC.seq ?_
      refine RC.seq ?_
      refine RC.region rfl ?_
      refine RL.q (Qt.mv rfl) ?_
      refine RL.q (Qt.not rfl) ?_
      refine RL.q (Qt.mv rfl) ?_
      by_cases h5 : L[qq.toNat] = []
      · have hk : (!kTopOk L[qq.toNat]) = true := by rw [kTopOk_iff.2 h5]; rfl
        rw [if_pos h5]
        refine RL.s (Skips.guard rfl rfl rfl (hk)) ?_
        refine RL.s (Skips.guard rfl rfl rfl (hk)) ?_
        refine RL.s (Skips.undef rfl rfl rfl) ?_
        refine RL.s (Skips.undef rfl rfl rfl) ?_
        refine RL.s (Skips.undef rfl rfl rfl) ?_
        refine RL.s (Skips.undef rfl rfl rfl) ?_
        refine RL.s (Skips.guard rfl rfl rfl (hk)) ?_
        refine RL.q ((by exact Qt.pickT rfl (by assumption) rfl)) ?_
        refine RL.nil ?_
        refine RE.sqN ?_
        refine RC.condT rfl (rfl) ?_
        refine RC.exit ?_
        refine RE.sqX ?_
        refine RE.bkX ?_
        have hS := Sat.objIn (f := pF nt B) hv hqL (y := L[qq.toNat]) (hS.pick [1, 2, 3, 4, 5, 6, 7, 8, 9, 10, 11, 12, 13, 14, 15, 16] (by decide) rfl)
        rw [set_same hqL] at hS
        have hS := (hS.pick [1, 2, 0, 3, 4, 5, 6, 7, 8, 9, 10, 11, 12, 13, 14] (by decide) rfl).ownMk (cap := cap) (n := L.length) (sz := 1) (cs := vs) 1 rfl hc1 hc2 hc3 hc4
        have hS := pO_shut hp hv ha hnp hnt hS
        refine RE.rdN hr ?_
        exact hS.pick [1, 2, 3, 0, 4, 5, 6, 7, 8, 9, 10, 11] (by decide) rfl
      · have hk : (!kTopOk L[qq.toNat]) = false := by
          cases e : kTopOk L[qq.toNat] with
          | false => exact absurd (kTopOk_iff.1 e) h5
          | true => rfl
        rw [if_neg h5]
        have e1 : prBId L qq = kTopId L[qq.toNat] := by rw [prBId, if_neg (by omega), getD_at hqL]
        have e2 : prBK L qq = kTopK L[qq.toNat] := by rw [prBK, if_neg (by omega), getD_at hqL]
        have e3 : prBAt qq = qq := if_neg (by omega)
        have e4 : prBOk qq = true := decide_eq_true hq.1
        by_cases h6 : bb < 0
        · have hb : prBOk bb = false := decide_eq_false (by omega)
          rw [if_pos h6]
          refine RL.q (Qt.ld rfl (by exact hS.at 9 rfl) (by rfl)) ?_ (Runs.guard rfl rfl rfl (hk))
          refine RL.q (Qt.mv rfl) ?_ (Runs.guard rfl rfl rfl (hk))
          refine RL.s (Skips.guard rfl rfl rfl (hb)) ?_
          refine RL.s (Skips.guard rfl rfl rfl (hb)) ?_
          refine RL.s (Skips.guard rfl rfl rfl (hb)) ?_
          refine RL.s (Skips.guard rfl rfl rfl (hb)) ?_
          refine RL.q ((by exact Qt.pickF rfl (by assumption) rfl)) ?_ (Runs.guard rfl rfl rfl (hk))
          refine RL.q ((by exact Qt.pickF rfl (by assumption) rfl)) ?_
          refine RL.nil ?_
          refine RE.sqN ?_
          refine RC.condF rfl (rfl) ?_
          refine RC.skip ?_
          refine RE.sqN ?_
          refine RC.drawn 7 [0, 1, 2, 3, 4, 5, 6] (fun w' => w'.heap[b12]? = some (.cells (wr #[.bool false, .int .u64 0, .int .u8 0] 0 (kTopK L[qq.toNat]).cells) 31 (0, 0))) (by kernel_rfl) (by kernel_rfl) ((by exact hS.drew.get 0 rfl)) (fun hh => ?_)
          replace hS := hS.drew
          refine RH.q hh (Calm.bk Calm.rd) rfl (by kernel_rfl) (Qt.mv rfl) ?_
          refine RH.q hh (Calm.bk Calm.rd) rfl (by kernel_rfl) (Qt.ldA rfl (fun _ h => h) (by first  | rfl) (by exact Nat.le_of_ble_eq_true rfl)) ?_
          refine RH.q hh (Calm.bk Calm.rd) rfl (by kernel_rfl) (Qt.mv rfl) ?_
          refine RH.e0 hh rfl (by kernel_rfl) (Ef.st hS 12 rfl rfl rfl (by rfl) (by rfl) (by exact Nat.le_of_ble_eq_true rfl)) ?_
          intro _ w hS
          simp (disch := omega) only [List.set_cons_zero, List.set_cons_succ, cells_int', wr, List.setIfInBounds_toArray] at hS
          refine ⟨(by exact hS.get 0 rfl), ?_⟩
          refine RH.e0 hh rfl (by kernel_rfl) (Ef.st hS 11 rfl rfl rfl (by rfl) (by rfl) (by exact Nat.le_of_ble_eq_true rfl)) ?_
          intro _ w hS
          simp (disch := omega) only [List.set_cons_succ, cells_agg', Nat.zero_add] at hS
          refine ⟨(by exact hS.get 0 rfl), ?_⟩
          refine RH.e0 hh rfl (by kernel_rfl) (Ef.st hS 10 rfl rfl rfl (by rfl) (by rfl) (by exact Nat.le_of_ble_eq_true rfl)) ?_
          intro _ w hS
          simp (disch := omega) only [List.set_cons_zero, List.set_cons_succ, cells_int', wr, List.setIfInBounds_toArray] at hS
          refine ⟨(by exact hS.get 0 rfl), ?_⟩
          refine RH.e0 hh rfl (by kernel_rfl) (Ef.st hS 9 rfl rfl rfl (by rfl) (by rfl) (by exact Nat.le_of_ble_eq_true rfl)) ?_
          intro _ w hS
          simp (disch := omega) only [List.set_cons_zero, List.set_cons_succ, cells_bool', wr, List.setIfInBounds_toArray] at hS
          refine ⟨(by exact hS.get 0 rfl), ?_⟩
          refine RH.done hh (by kernel_rfl) ?_
          refine RL.nil ?_
          refine RE.bkN ?_
          have hS := Sat.objIn (f := pF nt B) hv hqL (y := L[qq.toNat]) (hS.pick [1, 2, 3, 4, 5, 6, 7, 8, 9, 10, 11, 12, 13, 14, 15, 16] (by decide) rfl)
          rw [set_same hqL] at hS
          have hS := (hS.pick [1, 2, 0, 3, 4, 5, 6, 7, 8, 9, 10, 11, 12, 13, 14] (by decide) rfl).ownMk (cap := cap) (n := L.length) (sz := 1) (cs := vs) 1 rfl hc1 hc2 hc3 hc4
          have hS := pO_shut hp hv ha hnp hnt hS
          refine RE.rdN hr ?_
          rw [e1, e2, e3, e4]
          exact hS.pick [1, 2, 3, 0, 4, 5, 6, 7, 8, 9, 10, 11] (by decide) rfl
        · have hb : prBOk bb = true := decide_eq_true (by omega)
          rw [if_neg h6]
          refine RL.q (Qt.ld rfl (by exact hS.at 9 rfl) (by rfl)) ?_ (Runs.guard rfl rfl rfl (hk))
          refine RL.q (Qt.mv rfl) ?_ (Runs.guard rfl rfl rfl (hk))
          refine RL.q (Qt.ldA rfl (by exact hS.at 0 rfl) (by first  | rfl) (by exact Nat.le_of_ble_eq_true rfl)) ?_ (Runs.guard rfl rfl rfl (hb))
          refine RL.q (Qt.ldA rfl (by exact hS.at 11 rfl) (by first  | rfl) (by exact Nat.le_of_ble_eq_true rfl)) ?_ (Runs.guard rfl rfl rfl (hb))
          refine RL.e (Ef.call hS (kyAbove _ _) rfl rfl Try.call20 [] [0, 1, 2, 3, 4, 5, 6, 7, 8, 9, 10, 11, 12, 13, 14, 15, 16] (by decide) rfl rfl) ?_ (Runs.guard rfl rfl rfl (hb))
          rintro v43 w ⟨ps, ⟨rfl, rfl⟩, hS⟩
          try rw [List.nil_append] at hS
          refine RL.q (Qt.not rfl) ?_ (Runs.guard rfl rfl rfl (hb))
          refine RL.q ((by exact Qt.pickT rfl (by assumption) rfl)) ?_ (Runs.guard rfl rfl rfl (hk))
          refine RL.q ((by exact Qt.pickF rfl (by assumption) rfl)) ?_
          refine RL.nil ?_
          refine RE.sqN ?_
          have e5 : prBK L bb = kTopK (L.getD bb.toNat []) := if_neg h6
          rw [e5]
          by_cases h7 : kAbove (kTopK L[qq.toNat]) (kTopK (L.getD bb.toNat [])) = true
          · rw [if_pos h7, h7]
            refine RC.condF rfl (rfl) ?_
            refine RC.skip ?_
            refine RE.sqN ?_
            refine RC.drawn 7 [0, 1, 2, 3, 4, 5, 6] (fun w' => w'.heap[b12]? = some (.cells (wr #[.bool false, .int .u64 0, .int .u8 0] 0 (kTopK L[qq.toNat]).cells) 31 (0, 0))) (by kernel_rfl) (by kernel_rfl) ((by exact hS.drew.get 0 rfl)) (fun hh => ?_)
            replace hS := hS.drew
            refine RH.q hh (Calm.bk Calm.rd) rfl (by kernel_rfl) (Qt.mv rfl) ?_
            refine RH.q hh (Calm.bk Calm.rd) rfl (by kernel_rfl) (Qt.ldA rfl (fun _ h => h) (by first  | rfl) (by exact Nat.le_of_ble_eq_true rfl)) ?_
            refine RH.q hh (Calm.bk Calm.rd) rfl (by kernel_rfl) (Qt.mv rfl) ?_
            refine RH.e0 hh rfl (by kernel_rfl) (Ef.st hS 12 rfl rfl rfl (by rfl) (by rfl) (by exact Nat.le_of_ble_eq_true rfl)) ?_
            intro _ w hS
            simp (disch := omega) only [List.set_cons_zero, List.set_cons_succ, cells_int', wr, List.setIfInBounds_toArray] at hS
            refine ⟨(by exact hS.get 0 rfl), ?_⟩
            refine RH.e0 hh rfl (by kernel_rfl) (Ef.st hS 11 rfl rfl rfl (by rfl) (by rfl) (by exact Nat.le_of_ble_eq_true rfl)) ?_
            intro _ w hS
            simp (disch := omega) only [List.set_cons_zero, List.set_cons_succ, cells_agg', Nat.zero_add] at hS
            refine ⟨(by exact hS.get 0 rfl), ?_⟩
            refine RH.e0 hh rfl (by kernel_rfl) (Ef.st hS 10 rfl rfl rfl (by rfl) (by rfl) (by exact Nat.le_of_ble_eq_true rfl)) ?_
            intro _ w hS
            simp (disch := omega) only [List.set_cons_zero, List.set_cons_succ, cells_int', wr, List.setIfInBounds_toArray] at hS
            refine ⟨(by exact hS.get 0 rfl), ?_⟩
            refine RH.e0 hh rfl (by kernel_rfl) (Ef.st hS 9 rfl rfl rfl (by rfl) (by rfl) (by exact Nat.le_of_ble_eq_true rfl)) ?_
            intro _ w hS
            simp (disch := omega) only [List.set_cons_zero, List.set_cons_succ, cells_bool', wr, List.setIfInBounds_toArray] at hS
            refine ⟨(by exact hS.get 0 rfl), ?_⟩
            refine RH.done hh (by kernel_rfl) ?_
            refine RL.nil ?_
            refine RE.bkN ?_
            have hS := Sat.objIn (f := pF nt B) hv hqL (y := L[qq.toNat]) (hS.pick [1, 2, 3, 4, 5, 6, 7, 8, 9, 10, 11, 12, 13, 14, 15, 16] (by decide) rfl)
            rw [set_same hqL] at hS
            have hS := (hS.pick [1, 2, 0, 3, 4, 5, 6, 7, 8, 9, 10, 11, 12, 13, 14] (by decide) rfl).ownMk (cap := cap) (n := L.length) (sz := 1) (cs := vs) 1 rfl hc1 hc2 hc3 hc4
            have hS := pO_shut hp hv ha hnp hnt hS
            refine RE.rdN hr ?_
            rw [e1, e2, e3, e4]
            exact hS.pick [1, 2, 3, 0, 4, 5, 6, 7, 8, 9, 10, 11] (by decide) rfl
          · rw [if_neg h7]
            have h7 : kAbove (kTopK L[qq.toNat]) (kTopK (L.getD bb.toNat [])) = false := by simpa using h7
            rw [h7]
            refine RC.condT rfl (rfl) ?_
            refine RC.exit ?_
            refine RE.sqX ?_
            refine RE.bkX ?_
            have hS := Sat.objIn (f := pF nt B) hv hqL (y := L[qq.toNat]) (hS.pick [1, 2, 3, 4, 5, 6, 7, 8, 9, 10, 11, 12, 13, 14, 15, 16] (by decide) rfl)
            rw [set_same hqL] at hS
            have hS := (hS.pick [1, 2, 0, 3, 4, 5, 6, 7, 8, 9, 10, 11, 12, 13, 14] (by decide) rfl).ownMk (cap := cap) (n := L.length) (sz := 1) (cs := vs) 1 rfl hc1 hc2 hc3 hc4
            have hS := pO_shut hp hv ha hnp hnt hS
            refine RE.rdN hr ?_
            exact hS.pick [1, 2, 3, 0, 4, 5, 6, 7, 8, 9, 10, 11] (by decide) rfl

    · intro b' w hS
      rw [List.length_map, List.take_length] at hS
      generalize (prOrd np proc draw).foldl (prStep L) (-1) = bb at *
      refine RE.bkN ?_
      refine RE.sqN ?_
      refine RC.seq ?_
      refine RC.drawn 8 [0, 1, 2, 3, 4, 5, 6, 7] (fun w' => w'.heap[b9]? = some (.cells #[.bool (prBOk bb)] 4 (0, 0)) ∧ w'.heap[b8]? = some (.cells #[.int .i64 (prBAt bb)] 3 (0, 0)) ∧ w'.heap[b7]? = some (.cells (prBK L bb).cells.toArray 31 (0, 0)) ∧ w'.heap[b6]? = some (.cells #[.int .i64 (prBId L bb)] 3 (0, 0))) (by kernel_rfl) (by kernel_rfl) (⟨by exact hS.drew.get 4 rfl, by exact hS.drew.get 5 rfl, by exact hS.drew.get 6 rfl, by exact hS.drew.get 7 rfl⟩) (fun hh => ?_)
      replace hS := hS.drew
      refine RH.q hh (Calm.sq (Calm.sc Calm.body)) rfl (by kernel_rfl) (Qt.ld rfl (by exact fun _ h => h.2.2.2) (by rfl)) ?_
      refine RH.q hh (Calm.sq (Calm.sc Calm.body)) rfl (by kernel_rfl) (Qt.ldA rfl (by exact fun _ h => h.2.2.1) (by first  | rfl) (by exact Nat.le_of_ble_eq_true rfl)) ?_
      refine RH.q hh (Calm.sq (Calm.sc Calm.body)) rfl (by kernel_rfl) (Qt.ld rfl (by exact fun _ h => h.2.1) (by rfl)) ?_
      refine RH.q hh (Calm.sq (Calm.sc Calm.body)) rfl (by kernel_rfl) (Qt.ld rfl (by exact fun _ h => h.1) (by rfl)) ?_
      refine RH.e0 hh rfl (by kernel_rfl) (Ef.st hS 7 rfl rfl rfl (by rfl) (by rfl) (by exact Nat.le_of_ble_eq_true rfl)) ?_
      intro _ w hS
      simp (disch := omega) only [List.set_cons_zero, cells_int', wr, List.setIfInBounds_toArray] at hS
      refine ⟨⟨by exact hS.get 4 rfl, by exact hS.get 5 rfl, by exact hS.get 6 rfl, by exact hS.get 7 rfl⟩, ?_⟩
      refine RH.e0 hh rfl (by kernel_rfl) (Ef.st hS 6 rfl rfl rfl (by rfl) (by rfl) (by exact Nat.le_of_ble_eq_true rfl)) ?_
      intro _ w hS
      simp (disch := omega) only [cells_agg', Nat.zero_add] at hS
      refine ⟨⟨by exact hS.get 4 rfl, by exact hS.get 5 rfl, by exact hS.get 6 rfl, by exact hS.get 7 rfl⟩, ?_⟩
      refine RH.e0 hh rfl (by kernel_rfl) (Ef.st hS 5 rfl rfl rfl (by rfl) (by rfl) (by exact Nat.le_of_ble_eq_true rfl)) ?_
      intro _ w hS
      simp (disch := omega) only [List.set_cons_zero, cells_int', wr, List.setIfInBounds_toArray] at hS
      refine ⟨⟨by exact hS.get 4 rfl, by exact hS.get 5 rfl, by exact hS.get 6 rfl, by exact hS.get 7 rfl⟩, ?_⟩
      refine RH.e0 hh rfl (by kernel_rfl) (Ef.st hS 4 rfl rfl rfl (by rfl) (by rfl) (by exact Nat.le_of_ble_eq_true rfl)) ?_
      intro _ w hS
      simp (disch := omega) only [List.set_cons_zero, cells_bool', wr, List.setIfInBounds_toArray] at hS
      refine ⟨⟨by exact hS.get 4 rfl, by exact hS.get 5 rfl, by exact hS.get 6 rfl, by exact hS.get 7 rfl⟩, ?_⟩
      refine RH.done hh (by kernel_rfl) ?_
      refine RL.nil ?_
      refine RE.sqN ?_
      refine RC.ret ?_
      refine RE.scR ?_
      refine RE.retMX hS (k := 10) (vs := [.int .i64 (prBId L bb), .agg (prBK L bb).cells.toArray, .int .i64 (prBAt bb), .bool (prBOk bb)]) rfl (fun w hS => (by repeat (first | exact ResX.nil | refine ResX.tmp rfl ?_ | refine ResX.one (by infer_instance) rfl rfl (by first | exact hS.get 0 rfl | exact hS.get 1 rfl | exact hS.get 2 rfl | exact hS.get 3 rfl | exact hS.get 4 rfl | exact hS.get 5 rfl | exact hS.get 6 rfl | exact hS.get 7 rfl | exact hS.get 8 rfl | exact hS.get 9 rfl | exact hS.get 10 rfl | exact hS.get 11 rfl) rfl ?_ | refine ResX.cell (by infer_instance) rfl rfl (by exact hS.get 6 rfl) rfl (Nat.le_of_ble_eq_true rfl) ?_))) ⟨rfl, rfl⟩ [3, 9] (by decide) rfl
end Go.Proofs

/- Layer 11 itself: Take. -/
namespace Go.Proofs
open Go Go.Gx
variable {oo : World}

set_option maxHeartbeats 2000000 in
theorem prTakeC (p : Value) (np nt : Nat) (queue B : Int) (L : List (List KItem)) (proc draw : Int) (hdr : 0 ≤ draw ∧ draw ≤ 18446744073709551615) : Ct Try.prog 19 #[p, .int .i64 proc, .int .u64 draw] [pO p np nt queue B L] (fun v ps => v = prBV L (prB L np proc draw) ∧ ps = [pO p np nt queue B (prTake L (prB L np proc draw))]) := by
  refine Ct.enter Try.func19 rfl (Nat.le_of_ble_eq_true rfl) ?_
  intro oo w R hS
  change RC _ _ _ _ _ _ [(0, _), (1, _), (2, _)] _
  obtain ⟨b, r0, sp0, cap0, vs0, es0, rfl, hp, hv0, ha0, hnp, hnt, hS⟩ := pO_open hS
  have hS := pO_shut hp hv0 ha0 hnp hnt hS
  have hbr := prB_range (L := L) hnp.1 proc draw
  refine RC.seq ?_
  refine RC.region rfl ?_
  refine RL.q (Qt.as rfl) ?_
  refine RL.e (Ef.alloc hS) ?_
  rintro _ w ⟨b7, rfl, hS⟩
  try simp (disch := omega) only [cells_agg'] at hS
  refine RL.q (Qt.as rfl) ?_
  refine RL.q (Qt.as rfl) ?_
  refine RL.nil ?_
  refine RE.sqN ?_
  refine RC.seq ?_
  refine RC.region rfl ?_
  refine RL.q (Qt.mv rfl) ?_
  refine RL.q (Qt.mv rfl) ?_
  refine RL.q (Qt.mv rfl) ?_
  refine RL.e (Ef.call hS (prBest _ np nt queue B L proc draw hdr) rfl rfl Try.call18 [1] [0, 2] (by decide) rfl rfl) ?_
  rintro v14 w ⟨ps, ⟨rfl, rfl⟩, hS⟩
  refine RL.q (Qt.mv rfl) ?_
  refine RL.q (Qt.ext rfl rfl) ?_
  refine RL.q (Qt.ext rfl rfl) ?_
  refine RL.q (Qt.ext rfl rfl) ?_
  refine RL.q (Qt.ext rfl rfl) ?_
  refine RL.q (Qt.as rfl) ?_
  refine RL.e0 (Ef.st hS 1 rfl rfl rfl (by rfl) (by rfl) (by exact Nat.le_of_ble_eq_true rfl)) ?_
  intro _ w hS
  simp (disch := omega) only [cells_agg'] at hS
  refine RL.q (Qt.as rfl) ?_
  refine RL.q (Qt.as rfl) ?_
  refine RL.nil ?_
  refine RE.sqN ?_
  refine RC.seq ?_
  refine RC.seq ?_
  refine RC.region rfl ?_
  refine RL.q (Qt.mv rfl) ?_
  refine RL.nil ?_
  refine RE.sqN ?_
  generalize hbb : prB L np proc draw = bb at *
  have hwr : wr #[.bool false, .int .u64 0, .int .u8 0] 0 (prBK L bb).cells = (prBK L bb).cells.toArray := rfl
  refine RC.cond rfl (fun h => ?_) (fun h => ?_)
  · skip
    have h : 0 ≤ bb := of_decide_eq_true h
    obtain ⟨g0, g1, g2⟩ := hbr.resolve_left (by omega)
    obtain ⟨e1, e2, _⟩ := prTake_rem hp g0 g2
    refine RC.region rfl ?_
    refine RL.q (Qt.mv rfl) ?_
    refine RL.q (Qt.mv rfl) ?_
    refine RL.e (Ef.call hS (prRemove _ np nt queue B L (prBId L bb)) rfl rfl Try.call33 [0] [1, 2] (by decide) rfl rfl) ?_
    rintro v22 w ⟨ps, ⟨rfl, rfl⟩, hS⟩
    refine RL.nil ?_
    refine RE.sqN ?_
    refine RC.seq ?_
    refine RC.drawn 8 [1, 0, 4, 2, 3, 5, 6, 7] (fun w' => w'.heap[b7]? = some (.cells (prBK L bb).cells.toArray 31 (0, 0))) (by kernel_rfl) (by kernel_rfl) ((by exact hS.drew.get 1 rfl)) (fun hh => ?_)
    replace hS := hS.drew
    refine RH.q hh (Calm.sq Calm.body) rfl (by kernel_rfl) (Qt.ldA rfl (fun _ h => h) (by first  | rfl) (by exact Nat.le_of_ble_eq_true rfl)) ?_
    refine RH.q hh (Calm.sq Calm.body) rfl (by kernel_rfl) (Qt.mv rfl) ?_
    refine RH.q hh (Calm.sq Calm.body) rfl (by kernel_rfl) (Qt.as rfl) ?_
    refine RH.q hh (Calm.sq Calm.body) rfl (by kernel_rfl) (Qt.mv rfl) ?_
    refine RH.q hh (Calm.sq Calm.body) rfl (by kernel_rfl) (Qt.mv rfl) ?_
    refine RH.e0 hh rfl (by kernel_rfl) (Ef.st hS 1 rfl rfl rfl (by rfl) (by rfl) (by exact Nat.le_of_ble_eq_true rfl)) ?_
    intro _ w hS
    simp (disch := omega) only [cells_agg', Nat.zero_add] at hS
    refine ⟨(by exact hS.get 1 rfl), ?_⟩
    refine RH.q hh (Calm.sq Calm.body) rfl (by kernel_rfl) (Qt.as rfl) ?_
    refine RH.q hh (Calm.sq Calm.body) rfl (by kernel_rfl) (Qt.as rfl) ?_
    refine RH.done hh (by kernel_rfl) ?_
    refine RL.nil ?_
    refine RE.sqN ?_
    refine RC.ret ?_
    rw [e2] at hS
    exact RE.retX (vs := [.int .i64 (prBId L bb), .agg (prBK L bb).cells.toArray, .int .i64 (prBAt bb), .bool (prBOk bb)]) (by repeat (first | exact ResX.nil | refine ResX.tmp rfl ?_ | refine ResX.one (by infer_instance) rfl rfl (by exact hS.get 1 rfl) rfl ?_ | refine ResX.cell (by infer_instance) rfl rfl (by exact hS.get 1 rfl) rfl (Nat.le_of_ble_eq_true rfl) ?_)) ⟨rfl, rfl⟩ (hS.pick [0, 2] (by decide) rfl)
  · refine RC.skip ?_
    refine RE.sqN ?_
    refine RC.seq ?_
    refine RC.drawn 8 [1, 0, 4, 2, 3, 5, 6, 7] (fun w' => w'.heap[b7]? = some (.cells (prBK L bb).cells.toArray 31 (0, 0))) (by kernel_rfl) (by kernel_rfl) ((by exact hS.drew.get 1 rfl)) (fun hh => ?_)
    replace hS := hS.drew
    refine RH.q hh (Calm.sq Calm.body) rfl (by kernel_rfl) (Qt.ldA rfl (fun _ h => h) (by first  | rfl) (by exact Nat.le_of_ble_eq_true rfl)) ?_
    refine RH.q hh (Calm.sq Calm.body) rfl (by kernel_rfl) (Qt.mv rfl) ?_
    refine RH.q hh (Calm.sq Calm.body) rfl (by kernel_rfl) (Qt.as rfl) ?_
    refine RH.q hh (Calm.sq Calm.body) rfl (by kernel_rfl) (Qt.mv rfl) ?_
    refine RH.q hh (Calm.sq Calm.body) rfl (by kernel_rfl) (Qt.mv rfl) ?_
    refine RH.e0 hh rfl (by kernel_rfl) (Ef.st hS 1 rfl rfl rfl (by rfl) (by rfl) (by exact Nat.le_of_ble_eq_true rfl)) ?_
    intro _ w hS
    simp (disch := omega) only [cells_agg', Nat.zero_add] at hS
    refine ⟨(by exact hS.get 1 rfl), ?_⟩
    refine RH.q hh (Calm.sq Calm.body) rfl (by kernel_rfl) (Qt.as rfl) ?_
    refine RH.q hh (Calm.sq Calm.body) rfl (by kernel_rfl) (Qt.as rfl) ?_
    refine RH.done hh (by kernel_rfl) ?_
    refine RL.nil ?_
    refine RE.sqN ?_
    refine RC.ret ?_
    have h : ¬ 0 ≤ bb := of_decide_eq_false h
    have hpr : prTake L bb = L := if_pos (by omega)
    rw [hpr]
    exact RE.retX (vs := [.int .i64 (prBId L bb), .agg (prBK L bb).cells.toArray, .int .i64 (prBAt bb), .bool (prBOk bb)]) (by repeat (first | exact ResX.nil | refine ResX.tmp rfl ?_ | refine ResX.one (by infer_instance) rfl rfl (by exact hS.get 1 rfl) rfl ?_ | refine ResX.cell (by infer_instance) rfl rfl (by exact hS.get 1 rfl) rfl (Nat.le_of_ble_eq_true rfl) ?_)) ⟨rfl, rfl⟩ (hS.pick [0, 2] (by decide) rfl)
end Go.Proofs

/- From a contract to a law's row: the whole memory as one piece that stays; every argument reads behind the call as before. No condition; nothing of any program stands here. -/
namespace Go.Gx
open Go Go.ChangeShapes Go.WideShapes Go.ChangeAt Go.RowKit

/-- A piece that is just these blocks. -/
def pin (F0 : Frag) : HP := fun F => F = F0
theorem Sat.pinned {oo w : World} {L : List HP} {F0 : Frag} (h : Sat oo w L) (k : Nat) (hk : L[k]? = some (pin F0)) {b : Nat} {o : Obj} (hm : (b, o) ∈ F0) : w.heap[b]? = some o := by
  obtain ⟨F, hF, hl⟩ := h
  have hlt : k < L.length := (List.getElem?_eq_some_iff.1 hk).1
  have h1 : F k = F0 := hF k _ hk
  exact hl.lies k hlt (b, o) (by rw [h1]; exact hm)
theorem Sat.atPin {oo w : World} {L : List HP} {F0 : Frag} (h : Sat oo w L) (k : Nat) (hk : L[k]? = some (pin F0)) {b : Nat} {o : Obj} (hm : (b, o) ∈ F0) : ∀ w' : World, w'.heap = w.heap → w'.heap[b]? = some o := fun _ e => by rw [e]; exact h.pinned k hk hm

/-- All blocks of a world. -/
def allOf (W : World) : Frag := (List.range W.heap.size).map fun k => (k, (W.heap[k]?).getD (.cells #[] 0 (0, 0)))
theorem mem_allOf {W : World} {b : Nat} {o : Obj} : (b, o) ∈ allOf W ↔ W.heap[b]? = some o := by
  unfold allOf
  rw [List.mem_map]
  constructor
  · rintro ⟨k, hk, h⟩
    have hlt : k < W.heap.size := List.mem_range.1 hk
    simp only [Prod.mk.injEq, Array.getElem?_eq_getElem hlt, Option.getD_some] at h
    obtain ⟨rfl, rfl⟩ := h
    exact Array.getElem?_eq_getElem hlt
  · intro h
    have hlt : b < W.heap.size := (Array.getElem?_eq_some_iff.1 h).1
    exact ⟨b, by simpa using hlt, by rw [h]; rfl⟩
theorem allOf_nodup (W : World) : ((allOf W).map (·.1)).Nodup := by
  unfold allOf
  rw [List.map_map]
  have : (List.range W.heap.size).map ((fun x : Nat × Obj => x.1) ∘ fun k => (k, (W.heap[k]?).getD (.cells #[] 0 (0, 0)))) = List.range W.heap.size := by
    conv => rhs; rw [← List.map_id (List.range W.heap.size)]
    rfl
  rw [this]
  exact List.nodup_range
theorem Sat.start (W : World) : Sat W W [pin (allOf W), emp] := by
  refine ⟨fun i => if i = 0 then allOf W else [], ?_, ?_, ?_, ?_, rfl, rfl, rfl⟩
  · intro i p hp
    match i with
    | 0 => simp at hp; subst hp; rfl
    | 1 => simp at hp; subst hp; rfl
    | i + 2 => simp at hp
  · intro i _
    by_cases h : i = 0
    · simp only [h, if_true]; exact allOf_nodup W
    · simp [h]
  · intro i j _ _ hij b hb
    by_cases h : i = 0
    · have hj : ¬ j = 0 := by omega
      simp [hj]
    · simp [h] at hb
  · intro i _ x hx
    by_cases h : i = 0
    · simp only [h, if_true] at hx
      exact mem_allOf.1 hx
    · simp [h] at hx
theorem Sat.below {W W' : World} {L : List HP} (h : Sat W W' L) (k : Nat) (hk : L[k]? = some (pin (allOf W))) : Below W.heap.size W W' := by
  have hb : ∀ b, b < W.heap.size → W'.heap[b]? = W.heap[b]? := fun b hb => by
    have h1 : W.heap[b]? = some W.heap[b] := Array.getElem?_eq_getElem hb
    rw [h1]; exact h.pinned k hk (mem_allOf.2 h1)
  obtain ⟨F, hF, hl⟩ := h
  refine ⟨hl.outs.1, hl.outs.2.1, hl.outs.2.2, ?_, hb⟩
  rcases Nat.eq_zero_or_pos W.heap.size with h0 | h0
  · omega
  · have := hb (W.heap.size - 1) (by omega)
    have h1 : W.heap[W.heap.size - 1]? = some W.heap[W.heap.size - 1] := Array.getElem?_eq_getElem (by omega)
    rw [h1] at this
    have := (Array.getElem?_eq_some_iff.1 this).1
    omega

/-- A law's contract as a fact of its calls. -/
theorem Ct.law {P : Program} {f : FuncId} {args : Array Value} {W : World} (h : Ct P f args [pin (allOf W)] (fun v ps => v = .bool true ∧ ps = [pin (allOf W)])) :
    Calls P f args W fun e W' => e = .returned (.bool true) ∧ Below W.heap.size W W' :=
  (h W W emp (Sat.start W)).mono fun e W' ⟨v, ps, he, ⟨hv, hp⟩, hS⟩ => by
    subst he; subst hv; subst hp
    exact ⟨rfl, hS.below 0 rfl⟩

section
variable {H : Type} {enc : TypeId × Value → H} {P : Program}

theorem trodAll_stays (hl : laidOutB P = true) {W W' : World} (hb : Below W.heap.size W W') {sp : Nat → Bool} : ∀ (ts : List TypeId) (vs : List Value) (ds : List (DataW H)) (ps : List MemPlace),
    (∀ t ∈ ts, P.readableRec t = true ∧ t < P.types.size) → (∀ x ∈ ps, x.block < W.heap.size) → (∀ x ∈ ps, sp x.block = true) →
    DataW.TrodAll enc P W 0 (fun _ => true) true ts vs ds ps → DataW.TrodAll enc P W' 0 sp true ts vs ds ps
  | [], _, _, _, _, _, _, h => by
    obtain ⟨rfl, rfl, rfl⟩ := trodAll_nil h
    exact trodAll_mk0
  | t :: ts, _, _, _, ht, hlt, hsp, h => by
    obtain ⟨v, vs, d, ds, p, q, rfl, rfl, rfl, h1, h2⟩ := trodAll_cons h
    refine trodAll_cons_mk ?_ (trodAll_stays hl hb ts vs ds q (fun u hu => ht u (by simp [hu])) (fun x hx => hlt x (by simp [hx])) (fun x hx => hsp x (by simp [hx])) h2)
    exact WideElems.Trod_stays hl (ht t (by simp)).1 (ht t (by simp)).2 h1 (fun x hx => hb.same (hlt x (by simp [hx]))) (fun x hx => hsp x (by simp [hx]))

/-- What a law's row asks behind the call. -/
theorem law_post {f : Func} {s : ChangeSpec} {W W' : World} {args : Array Value} {ds gs : List (DataW H)} {before : List MemPlace} {tb : TypeId} {apart fresh handsOn : Bool} (hl : laidOutB P = true) (hr : ∀ t ∈ f.params.toList, P.readableRec t = true ∧ t < P.types.size)
    (hW : DataW.Whole enc P f.params.toList s.vars apart W args.toList ds gs before) (hvars : s.vars = []) (hb : Below W.heap.size W W') (hres : f.resultTypes = #[tb]) (htb : P.underlying tb = some .bool)
    (h1 : (s.fn H (ds ++ gs)).results = [.lit (.bool true)]) (h2 : (s.fn H (ds ++ gs)).args = ds) (h3 : (s.fn H (ds ++ gs)).vars = []) : s.post enc P f apart fresh handsOn false W args (.bool true) W' := by
  have hlt := hW.lt
  have hW' := hW
  obtain ⟨p, q, hA, hV, rfl, hfz, hnd⟩ := hW
  have hV' : q = [] := by
    rw [hvars] at hV
    cases gs with
    | nil => exact hV
    | cons g gs => exact hV.elim
  subst hV'
  refine ⟨ds, gs, p ++ [], [], p, [], hW', ?_, ?_, ?_, hb.frame _, fun h => by cases h⟩
  · rw [h1, hres]
    exact trodAll_mk1 ⟨1, by simp [DataW.trod, htb, Value.cells]⟩
  · rw [h2]
    exact trodAll_stays hl hb _ _ _ _ hr (fun x hx => hlt x (by simp [hx])) (fun x hx => by simpa using hlt x (by simp [hx])) hA
  · rw [h3, hvars]
    rfl
end

theorem cell_block {W : World} {a : Addr} {v : Value} (h : W.cell? a = some v) : ∃ c T fz, a.spot = none ∧ W.heap[a.block]? = some (.cells c T fz) ∧ c[a.off]? = some v := by
  unfold World.cell? at h
  split at h
  · rename_i c T fz hb
    split at h
    · cases h
    · rename_i hs
      exact ⟨c, T, fz, by simpa using hs, hb, h⟩
  · cases h
theorem add_spot (a : Addr) (k : Nat) : (a.add k).block = a.block ∧ (a.add k).off = a.off + k := by
  unfold Addr.add
  split
  · rename_i h; subst h; exact ⟨rfl, rfl⟩
  · exact ⟨rfl, rfl⟩

/-- The rows of a slice, read cell by cell, in its block. -/
theorem rows_open {W : World} {a : Addr} {n sz : Nat} (rows : Nat → List Value) (hlen : ∀ i, i < n → (rows i).length = sz) (h : ∀ i, i < n → W.cells? 0 (a.add (i * sz)) sz = some (rows i)) (h0 : 0 < n) (hsz : 0 < sz) :
    ∃ c T fz, a = ⟨a.block, a.off, none⟩ ∧ W.heap[a.block]? = some (.cells c T fz) ∧ a.off + n * sz ≤ c.size ∧ ∀ i, i < n → c.extract (a.off + i * sz) (a.off + i * sz + sz) = (rows i).toArray := by
  have hcell : ∀ i, i < n → ∀ j, j < sz → ∃ c T fz, ((a.add (i * sz)).add j).spot = none ∧ W.heap[a.block]? = some (.cells c T fz) ∧ c[a.off + i * sz + j]? = (rows i)[j]? := fun i hi j hj => by
    obtain ⟨_, _, hc⟩ := World.cells?_some (h i hi)
    have hj' : j < (rows i).length := by rw [hlen i hi]; exact hj
    have h1 := hc j hj
    rw [List.getElem?_eq_getElem hj'] at h1
    obtain ⟨c, T, fz, hs, hb, hv⟩ := cell_block h1
    obtain ⟨e1, e2⟩ := add_spot (a.add (i * sz)) j
    obtain ⟨g1, g2⟩ := add_spot a (i * sz)
    rw [e1, g1] at hb
    rw [e2, g2] at hv
    exact ⟨c, T, fz, hs, hb, by rw [hv, List.getElem?_eq_getElem hj']⟩
  obtain ⟨c, T, fz, hsp, hb, _⟩ := hcell 0 h0 0 hsz
  have hsp : a.spot = none := by simpa [Addr.add] using hsp
  have hget : ∀ i, i < n → ∀ j, j < sz → c[a.off + i * sz + j]? = (rows i)[j]? := fun i hi j hj => by
    obtain ⟨c', T', fz', _, hb', hv⟩ := hcell i hi j hj
    rw [hb] at hb'
    cases hb'
    exact hv
  have hle : a.off + n * sz ≤ c.size := by
    have hj' : sz - 1 < (rows (n - 1)).length := by rw [hlen _ (by omega)]; omega
    have := hget (n - 1) (by omega) (sz - 1) (by omega)
    rw [List.getElem?_eq_getElem hj'] at this
    have h2 := (Array.getElem?_eq_some_iff.1 this).1
    have h3 : (n - 1) * sz + sz = n * sz := by
      rw [← Nat.succ_mul]; congr 1; omega
    omega
  refine ⟨c, T, fz, ?_, hb, hle, fun i hi => ?_⟩
  · cases a; simp at hsp; subst hsp; rfl
  · have h3 : i * sz + sz ≤ n * sz := by
      rw [← Nat.succ_mul]; exact Nat.mul_le_mul_right _ hi
    apply Array.ext'
    apply List.ext_getElem?
    intro j
    simp only [Array.toList_extract, List.extract_eq_take_drop]
    rw [List.getElem?_take, List.getElem?_drop, show a.off + i * sz + sz - (a.off + i * sz) = sz by omega]
    by_cases hj : j < sz
    · rw [if_pos hj, Array.getElem?_toList]; exact hget i hi j hj
    · rw [if_neg hj, List.getElem?_eq_none (by rw [hlen i hi]; omega)]

end Go.Gx

/- Slices of rows among the arguments of a law, two closed facts of the program. No condition. -/
namespace Go.Proofs
open Go Go.Gx Go.ChangeShapes Go.WideShapes Go.ChangeAt Go.RowKit Go.Deep

theorem own_knob : ownKnob Try.prog.godebug = none := by kernel_rfl
theorem laid_out : laidOutB Try.prog = true := by kernel_rfl

/-! The words in the head of the translation: read as a list of signs, not by evaluating the text. -/
theorem words_split : ∀ (w l : List Char), (w.all fun c => c != Char.ofNat 32) = true → wordsSigns (w ++ Char.ofNat 32 :: l) = w :: wordsSigns l := by
  intro w l
  induction w with
  | nil => intro _; rfl
  | cons c w ih =>
    intro h
    simp only [List.all_cons, Bool.and_eq_true, bne_iff_ne, ne_eq] at h
    have h2 := ih (by simpa using h.2)
    rw [List.cons_append, wordsSigns]
    · rw [h2]
    · intro e; exact h.1 e
def ich (l : List Nat) : List Char := l.map Char.ofNat
set_option maxRecDepth 100000 in
theorem init_str : Try.prog.initOrder = String.ofList (ich [104, 97, 114, 110, 101, 115, 115] ++ Char.ofNat 32 :: (ich [100, 57, 57, 48, 99, 48, 97, 97, 50, 54, 56, 100, 54, 51, 52, 57, 48, 100, 97, 56, 102, 52, 54, 97, 50, 99, 53, 57, 102, 53, 56, 102, 97, 53, 51, 50, 100, 97, 99, 99, 51, 98, 55, 56, 101, 51, 98, 50, 55, 98, 98, 101, 50, 57, 53, 97, 57, 98, 52, 97, 56, 97, 97, 52] ++ Char.ofNat 32 :: (ich [99, 117, 116] ++ Char.ofNat 32 :: ich [97, 116, 32, 98, 111, 97, 116, 115, 119, 97, 105, 110, 47, 98, 111, 97, 116, 115, 119, 97, 105, 110, 116, 111, 112, 46, 84, 111, 112, 83, 116, 101, 97, 108, 115, 32, 98, 111, 97, 116, 115, 119, 97, 105, 110, 47, 98, 111, 97, 116, 115, 119, 97, 105, 110, 108, 97, 119, 49, 49, 46, 80, 114, 111, 99, 115, 68, 114, 97, 119, 115, 32, 98, 111, 97, 116, 115, 119, 97, 105, 110, 47, 98, 111, 97, 116, 115, 119, 97, 105, 110, 108, 97, 119, 49, 49, 46, 80, 114, 111, 99, 115, 84, 97, 107, 101, 115, 32, 98, 111, 97, 116, 115, 119, 97, 105, 110, 47, 98, 111, 97, 116, 115, 119, 97, 105, 110, 116, 111, 112, 46, 84, 111, 112, 65, 103, 101, 115, 32, 98, 111, 97, 116, 115, 119, 97, 105, 110, 47, 98, 111, 97, 116, 115, 119, 97, 105, 110, 108, 97, 119, 49, 49, 46, 80, 114, 111, 99, 115, 66, 101, 115, 116, 32, 98, 111, 97, 116, 115, 119, 97, 105, 110, 47, 98, 111, 97, 116, 115, 119, 97, 105, 110, 108, 97, 119, 49, 49, 46, 80, 114, 111, 99, 115, 82, 111, 111, 109, 32, 98, 111, 97, 116, 115, 119, 97, 105, 110, 47, 98, 111, 97, 116, 115, 119, 97, 105, 110, 108, 97, 119, 49, 49, 46, 80, 114, 111, 99, 115, 80, 108, 97, 121, 115, 32, 98, 111, 97, 116, 115, 119, 97, 105, 110, 47, 98, 111, 97, 116, 115, 119, 97, 105, 110, 108, 97, 119, 49, 49, 46, 80, 114, 111, 99, 115, 79, 110, 101, 32, 98, 111, 97, 116, 115, 119, 97, 105, 110, 47, 98, 111, 97, 116, 115, 119, 97, 105, 110, 108, 97, 119, 49, 49, 46, 80, 114, 111, 99, 115, 67, 104, 97, 110, 103, 101, 115, 32, 98, 111, 97, 116, 115, 119, 97, 105, 110, 47, 98, 111, 97, 116, 115, 119, 97, 105, 110, 108, 97, 119, 49, 49, 46, 80, 114, 111, 99, 115, 70, 111, 114, 107, 115, 32, 98, 111, 97, 116, 115, 119, 97, 105, 110, 47, 98, 111, 97, 116, 115, 119, 97, 105, 110, 108, 97, 119, 49, 49, 46, 80, 114, 111, 99, 115, 78, 111, 110, 101]))) := by kernel_rfl
theorem behind_of {h s : List Char} {r : List (List Char)} (h1 : ((h == "harness".toList || h == "ownmain".toList) && isSumSigns s) = true) : behindMainWord (h :: s :: r) = r := if_pos h1
set_option maxRecDepth 100000 in
theorem main_words : ∃ rest, behindMainWord (wordsSigns Try.prog.initOrder.toList) = "cut".toList :: rest := by
  rw [init_str, String.toList_ofList, words_split _ _ (by decide +kernel), words_split _ _ (by decide +kernel), words_split _ _ (by decide +kernel)]
  exact ⟨_, behind_of (by decide +kernel)⟩
theorem make_of {P : Program} {rest : List (List Char)} (h : behindMainWord (wordsSigns P.initOrder.toList) = "cut".toList :: rest) : P.make = some .cut := by
  unfold Program.make
  rw [h]
  rfl
theorem final_of {P : Program} {rest : List (List Char)} (h : behindMainWord (wordsSigns P.initOrder.toList) = "cut".toList :: rest) : P.liftsFinal = false := by
  unfold Program.liftsFinal Program.headLifts
  rw [h]
  rfl
theorem enter_of {P : Program} {rest : List (List Char)} (h : behindMainWord (wordsSigns P.initOrder.toList) = "cut".toList :: rest) (h1 : P.laysLater = false) (h2 : P.bearsReflect = false) (h3 : P.doorFits [] = true) : P.mayEnter = true := by
  unfold Program.mayEnter
  rw [h]
  have e : stripLifts liftWords ("cut".toList :: rest) = ([], "cut".toList :: rest) := rfl
  simp only [e, h1, h2, h3]
  rfl
theorem may_enter : Try.prog.mayEnter = true := by
  obtain ⟨rest, h⟩ := main_words
  exact enter_of h (by kernel_rfl) (by kernel_rfl) (by kernel_rfl)
theorem lifts_final : Try.prog.liftsFinal = false := by
  obtain ⟨rest, h⟩ := main_words
  exact final_of h
theorem make_is : Try.prog.make = some .cut := by
  obtain ⟨rest, h⟩ := main_words
  exact make_of h

/-- A slice of rows that came in: the block that it lies in. -/
def RowsAt {α : Type} (f : α → List Value) (sz : Nat) (v : Value) (ds : List α) (F0 : Frag) : Prop := ∃ pa cap, v = .slice pa ds.length cap ∧ (0 < ds.length → ∃ b off c T fz, pa = some ⟨b, off, none⟩ ∧ (b, .cells c T fz) ∈ F0 ∧ off + ds.length * sz ≤ c.size ∧ ∀ (i : Nat) (hi : i < ds.length), c.extract (off + i * sz) (off + i * sz + sz) = (f ds[i]).toArray)

set_option maxRecDepth 100000 in
theorem slice_open {α : Type} [Inhabited α] {f : α → List Value} {sz : Nat} {ok : α → Prop} {H : Type} {enc : TypeId × Value → H} {W : World} {r : Reach} {b0 : Nat} {v : Value} {d : DataW H} {ps : List MemPlace} {ts te n : Nat} [ht : TI Try.prog ts (.slice te) n] (hc : Try.prog.cellsOf te = sz) (h0 : 0 < sz) (hlen : ∀ x, (f x).length = sz)
    (hof : ∀ {fuel : Nat} {cs : List Value} {x : DataW H × List MemPlace}, DataW.trod enc Try.prog W 0 (fun _ => true) true fuel te cs = some x → ∃ d : α, cs = f d ∧ ok d)
    (hval : Value.okWide Try.prog W r b0 ts v) (hd : DataW.Trod enc Try.prog W 0 (fun _ => true) true ts v d ps) : ∃ ds : List α, RowsAt f sz v ds (allOf W) ∧ ∀ x ∈ ds, ok x := by
  have ht := ht.u
  obtain ⟨a0, len0, cap0, rfl⟩ := okWide_slice ht hval
  obtain ⟨fuel, hf⟩ := hd
  rcases open_slice ht hf with ⟨hcs, _⟩ | ⟨a, len, cap, m, n, D, Pl, hcs, _, hle, _, hm, _, hx⟩
  · have hcs : Value.slice a0 len0 cap0 = .slice none 0 0 := by simpa [Value.cells] using hcs
    rw [hcs]
    exact ⟨[], ⟨none, 0, rfl, fun h => by simp at h⟩, by simp⟩
  · have hcs : Value.slice a0 len0 cap0 = .slice (some a) len cap := by simpa [Value.cells] using hcs
    rw [hcs]
    simp only [if_true] at hm
    subst hm
    rw [hc] at hx
    obtain ⟨g, hfd⟩ := choose_lt (α := α) (n := len) (p := fun i x => W.cells? 0 (a.add (i * sz)) sz = some (f x) ∧ ok x) (fun i hi => by
      obtain ⟨cs', h1, h2⟩ := hx i (by omega)
      obtain ⟨x, rfl, hok⟩ := hof h2
      exact ⟨x, h1, hok⟩)
    refine ⟨(List.range len).map g, ⟨some a, m, by simp, fun h0' => ?_⟩, ?_⟩
    · simp only [List.length_map, List.length_range] at h0' ⊢
      obtain ⟨c, T, fz, ha, hb, hle2, hrow⟩ := rows_open (n := len) (sz := sz) (fun i => f (g i)) (fun _ _ => hlen _) (fun i hi => (hfd i hi).1) h0' h0
      refine ⟨a.block, a.off, c, T, fz, by rw [← ha], mem_allOf.2 hb, hle2, fun i hi => ?_⟩
      rw [hrow i (by simpa using hi)]
      simp
    · intro x hx
      obtain ⟨i, hi, rfl⟩ := List.mem_map.1 hx
      exact (hfd i (List.mem_range.1 hi)).2
end Go.Proofs

/- The laws of layer 3: what live, do and play come to. -/
import Derived.Test.YtlicnplclfclcaaPh4
import Derived.Test.YtlicnplclfclcaaRh2
import Derived.Test.YtlicnplclfclcaaSame
import Derived.Test.YtlicnplclfclcaaArg
namespace Go.Proofs
open Go Go.Gx
variable {oo : World}

set_option maxHeartbeats 2000000 in
theorem phLive : Ct Try.prog 29 #[] [] (fun v ps => v = .bool true ∧ ∃ p l, ps = [hO p 4 l]) := by
  refine Ct.enter Try.func29 rfl (Nat.le_of_ble_eq_true rfl) ?_
  intro oo w R hS
  change RC _ _ _ _ _ _ [] _
  refine RC.seq ?_
  refine RC.region rfl ?_
  refine RL.q (Qt.as rfl) ?_
  refine RL.nil ?_
  refine RE.sqN ?_
  refine RC.seq ?_
  refine RC.region rfl ?_
  -- stops: op call
  refine RL.e (Ef.call hS (phNew 4 (by decide) (by decide)) rfl rfl Try.call43 [] [0] (by decide) rfl rfl) ?_
  rintro v7 w ⟨ps, ⟨⟨bq, rfl⟩, rfl⟩, hS⟩
  refine RL.q (Qt.as rfl) ?_
  refine RL.nil ?_
  refine RE.sqN ?_
  refine RC.seq ?_
  refine RC.region rfl ?_
  refine RL.q (Qt.mv rfl) ?_
  -- stops: op call
  refine RL.e (Ef.call hS (phInsert _ 4 [] ⟨1, 9, 0⟩) rfl rfl Try.call34 [0] [1] (by decide) rfl rfl) ?_
  rintro v9 w ⟨ps, ⟨rfl, rfl⟩, hS⟩
  refine RL.q (Qt.mv rfl) ?_
  -- stops: op call
  refine RL.e (Ef.call hS (phInsert _ 4 _ ⟨2, 4, 0⟩) rfl rfl Try.call34 [0] [1] (by decide) rfl rfl) ?_
  rintro v11 w ⟨ps, ⟨rfl, rfl⟩, hS⟩
  refine RL.q (Qt.mv rfl) ?_
  -- stops: op call
  refine RL.e (Ef.call hS (phChange _ 4 _ ⟨1, 3, 0⟩) rfl rfl Try.call36 [0] [1] (by decide) rfl rfl) ?_
  rintro v13 w ⟨ps, ⟨rfl, rfl⟩, hS⟩
  refine RL.q (Qt.as rfl) ?_
  refine RL.q (Qt.as rfl) ?_
  refine RL.q (Qt.as rfl) ?_
  refine RL.nil ?_
  refine RE.sqN ?_
  refine RC.seq ?_
  refine RC.region rfl ?_
  refine RL.q (Qt.mv rfl) ?_
  -- stops: op call
  refine RL.e (Ef.call hS (phTake _ 4 _) rfl rfl Try.call39 [0] [1] (by decide) rfl rfl) ?_
  rintro v16 w ⟨ps, ⟨rfl, rfl⟩, hS⟩
  refine RL.q (Qt.mv rfl) ?_
  refine RL.q (Qt.ext rfl rfl) ?_
  refine RL.q (Qt.ext rfl rfl) ?_
  refine RL.q (Qt.as rfl) ?_
  refine RL.q (Qt.as rfl) ?_
  refine RL.nil ?_
  refine RE.sqN ?_
  refine RC.seq ?_
  refine RC.region rfl ?_
  refine RL.q (Qt.mv rfl) ?_
  refine RL.q (Qt.eql rfl rfl) ?_
  refine RL.q (Qt.mv rfl) ?_
  refine RLG.start 21 true rfl ?_
  refine RLG.q rfl rfl rfl (fun _ => Qt.mv rfl) ?_
  refine RLG.q rfl rfl rfl (fun hg => by (try simp only [decide_eq_true_eq] at hg); exact Qt.eql rfl rfl) ?_
  refine RLG.and rfl rfl ?_
  refine RL.q (Qt.mv rfl) ?_
  refine RLG.start 25 true rfl ?_
  refine RLG.q rfl rfl rfl (fun _ => Qt.mv rfl) ?_
  refine RLG.q rfl rfl rfl (fun hg => by (try simp only [decide_eq_true_eq, Bool.and_eq_true] at hg); exact Qt.eql rfl rfl) ?_
  refine RLG.and rfl rfl ?_
  refine RL.q (Qt.mv rfl) ?_
  refine RLG.start 29 true rfl ?_
  refine RLG.q rfl rfl rfl (fun _ => Qt.mv rfl) ?_
  refine RLG.and rfl rfl ?_
  refine RL.q (Qt.mv rfl) ?_
  refine RLG.start 32 true rfl ?_
  refine RLG.q rfl rfl rfl (fun _ => Qt.mv rfl) ?_
  refine RLG.q rfl rfl rfl (fun hg => by (try simp only [decide_eq_true_eq, Bool.and_eq_true] at hg); exact Qt.eql rfl rfl) ?_
  refine RLG.and rfl rfl ?_
  refine RL.q (Qt.mv rfl) ?_
  -- stops: guard
  refine RL.q (Qt.mv rfl) ?_ (Runs.guard rfl rfl rfl (rfl))
  -- stops: op call
  refine RL.e (Ef.call hS (phLen _ 4 _) rfl rfl Try.call33 [0] [1] (by decide) rfl rfl) ?_ (Runs.guard rfl rfl rfl (rfl))
  rintro v38 w ⟨ps, ⟨rfl, rfl⟩, hS⟩
  refine RL.q (Qt.eql rfl rfl) ?_ (Runs.guard rfl rfl rfl (rfl))
  refine RL.q ((by first | exact Qt.pickT rfl (by assumption) rfl | exact Qt.pickF rfl (by assumption) rfl | exact Qt.pickT rfl rfl rfl | exact Qt.pickF rfl rfl rfl)) ?_
  refine RL.q (Qt.as rfl) ?_
  refine RL.nil ?_
  refine RE.sqN ?_
  refine RC.ret ?_
  -- stops: end ret
  exact RE.retB rfl ⟨rfl, _, _, rfl⟩ hS

structure PDeed where
  kind : Int
  id : Int
  dl : Int
  sq : Int
deriving Inhabited
def PDeed.cells (x : PDeed) : List Value := [.int .i64 x.kind, .int .i64 x.id, .int .u64 x.dl, .int .u64 x.sq]
def PDeed.val (x : PDeed) : Value := .agg x.cells.toArray
def PDeed.ok (x : PDeed) : Prop := 0 ≤ x.dl ∧ 0 ≤ x.sq
def PDeed.it (x : PDeed) : PItem := ⟨x.id, x.dl, x.sq⟩

/-- What a deed leaves. -/
def pDo (l : List PItem) (n : Nat) (x : PDeed) : List PItem := if x.kind = 0 then pIns l n x.it else if x.kind = 1 then pChg l n x.it else if x.kind = 2 then pDel l n x.id else if x.kind = 3 then l.tail else l

set_option maxHeartbeats 2000000 in
theorem phDo (p r : Value) (n : Nat) (l : List PItem) (x : PDeed) : Ct Try.prog 42 #[p, r, x.val] [hO p n l, rhO r n l] (fun v ps => v = .bool true ∧ ps = [hO p n (pDo l n x), rhO r n (pDo l n x)]) := by
  refine Ct.enter Try.func42 rfl (Nat.le_of_ble_eq_true rfl) ?_
  intro oo w R hS
  change RC _ _ _ _ _ _ [(0, _), (1, _), (2, _)] _
  obtain ⟨hok, hn1, hn2⟩ := hO_pok hS
  have hlen := hok.lenLe
  refine RC.seq ?_
  refine RC.region rfl ?_
  refine RL.e (Ef.box hS rfl) ?_
  rintro _ w ⟨b5, rfl, hS⟩
  try simp (disch := omega) only [List.set_cons_zero, List.set_cons_succ, cells_int, cells_bool, cells_ptr, cells_slice, cells_func, cells_agg, cells_map, cells_int', cells_bool', cells_ptr', cells_slice', cells_agg', cells_map', cells_func', Nat.zero_add, wr, List.setIfInBounds_toArray] at hS
  refine RL.q (Qt.as rfl) ?_
  refine RL.nil ?_
  refine RE.sqN ?_
  refine RC.seq ?_
  refine RC.seq ?_
  refine RC.region rfl ?_
  refine RL.q (Qt.fld rfl) ?_
  refine RL.q (Qt.ld rfl (by first | exact hS.at 0 rfl | exact hS.at 1 rfl | exact hS.at 2 rfl | exact hS.at 3 rfl) (by first  | rfl)) ?_
  refine RL.nil ?_
  refine RE.sqN ?_
  refine RC.block ?_
  refine RC.seq ?_
  refine RC.region rfl ?_
  refine RL.q (Qt.eql rfl rfl) ?_
  refine RL.q (Qt.as rfl) ?_
  refine RL.nil ?_
  refine RE.sqN ?_
  -- stops: cond
  refine RC.cond rfl (fun h => ?_) (fun h => ?_)
  · skip
    have h : x.kind = 0 := of_decide_eq_true h
    have e : pDo l n x = pIns l n x.it := by rw [pDo, if_pos h]
    rw [e]
    refine RC.seq ?_
    -- stops: drawn
    refine RC.drawn 15 [0, 1, 2, 3, 4, 5, 6, 8, 9, 10, 11, 12, 13, 14, 7] (fun w' => w'.heap[b5]? = some (.cells x.cells.toArray 37 (0, 0))) (by kernel_rfl) (by kernel_rfl) (hS.drew.get 0 rfl) (fun hh => ?_)
    replace hS := hS.drew
    refine RH.q hh (Calm.sq (Calm.bk (Calm.sq Calm.body))) rfl (by kernel_rfl) (Qt.mv rfl) ?_
    refine RH.q hh (Calm.sq (Calm.bk (Calm.sq Calm.body))) rfl (by kernel_rfl) (Qt.fld rfl) ?_
    refine RH.q hh (Calm.sq (Calm.bk (Calm.sq Calm.body))) rfl (by kernel_rfl) (Qt.ld rfl (fun _ h => h) (by first  | rfl)) ?_
    refine RH.q hh (Calm.sq (Calm.bk (Calm.sq Calm.body))) rfl (by kernel_rfl) (Qt.fld rfl) ?_
    refine RH.q hh (Calm.sq (Calm.bk (Calm.sq Calm.body))) rfl (by kernel_rfl) (Qt.ld rfl (fun _ h => h) (by first  | rfl)) ?_
    refine RH.q hh (Calm.sq (Calm.bk (Calm.sq Calm.body))) rfl (by kernel_rfl) (Qt.fld rfl) ?_
    refine RH.q hh (Calm.sq (Calm.bk (Calm.sq Calm.body))) rfl (by kernel_rfl) (Qt.ld rfl (fun _ h => h) (by first  | rfl)) ?_
    refine RH.q hh (Calm.sq (Calm.bk (Calm.sq Calm.body))) rfl (by kernel_rfl) (Qt.mv rfl) ?_
    refine RH.q hh (Calm.sq (Calm.bk (Calm.sq Calm.body))) rfl (by kernel_rfl) (Qt.fld rfl) ?_
    refine RH.q hh (Calm.sq (Calm.bk (Calm.sq Calm.body))) rfl (by kernel_rfl) (Qt.ld rfl (fun _ h => h) (by first  | rfl)) ?_
    refine RH.q hh (Calm.sq (Calm.bk (Calm.sq Calm.body))) rfl (by kernel_rfl) (Qt.fld rfl) ?_
    refine RH.q hh (Calm.sq (Calm.bk (Calm.sq Calm.body))) rfl (by kernel_rfl) (Qt.ld rfl (fun _ h => h) (by first  | rfl)) ?_
    refine RH.q hh (Calm.sq (Calm.bk (Calm.sq Calm.body))) rfl (by kernel_rfl) (Qt.fld rfl) ?_
    refine RH.q hh (Calm.sq (Calm.bk (Calm.sq Calm.body))) rfl (by kernel_rfl) (Qt.ld rfl (fun _ h => h) (by first  | rfl)) ?_
    refine RH.e hh rfl (by kernel_rfl) (Ef.call hS (phInsert p n l x.it) rfl rfl Try.call34 [1] [0, 2, 3] (by decide) rfl rfl) ?_
    rintro v22 w ⟨ps, ⟨rfl, rfl⟩, hS⟩
    refine ⟨hS.get 1 rfl, ?_⟩
    refine RH.done hh (by kernel_rfl) ?_
    -- stops: op call
    refine RL.e (Ef.call hS (rhInsert r n l x.it (by omega)) rfl rfl Try.call90 [2] [0, 1, 3] (by decide) rfl rfl) ?_
    rintro v30 w ⟨ps, ⟨rfl, rfl⟩, hS⟩
    refine RL.q (Qt.eql rfl rfl) ?_
    refine RL.q (Qt.as rfl) ?_
    refine RL.nil ?_
    refine RE.sqN ?_
    refine RC.ret ?_
    refine RE.bkR ?_
    refine RE.sqR ?_
    -- stops: end ret
    refine RE.retB rfl ⟨by simp [oneOf], rfl⟩ (hS.pick [1, 0, 3] (by decide) rfl)
  · skip
    have h : ¬ x.kind = 0 := of_decide_eq_false h
    refine RC.seq ?_
    refine RC.region rfl ?_
    refine RL.q (Qt.eql rfl rfl) ?_
    refine RL.q (Qt.as rfl) ?_
    refine RL.nil ?_
    refine RE.sqN ?_
    -- stops: cond
    refine RC.cond rfl (fun h2 => ?_) (fun h2 => ?_)
    · skip
      have h2 : x.kind = 1 := of_decide_eq_true h2
      have e : pDo l n x = pChg l n x.it := by rw [pDo, if_neg h, if_pos h2]
      rw [e]
      refine RC.seq ?_
      -- stops: drawn
      refine RC.drawn 15 [0, 1, 2, 3, 4, 5, 6, 8, 9, 10, 11, 12, 13, 14, 7] (fun w' => w'.heap[b5]? = some (.cells x.cells.toArray 37 (0, 0))) (by kernel_rfl) (by kernel_rfl) (hS.drew.get 0 rfl) (fun hh => ?_)
      replace hS := hS.drew
      refine RH.q hh (Calm.sq (Calm.bk (Calm.sq Calm.body))) rfl (by kernel_rfl) (Qt.mv rfl) ?_
      refine RH.q hh (Calm.sq (Calm.bk (Calm.sq Calm.body))) rfl (by kernel_rfl) (Qt.fld rfl) ?_
      refine RH.q hh (Calm.sq (Calm.bk (Calm.sq Calm.body))) rfl (by kernel_rfl) (Qt.ld rfl (fun _ h => h) (by first  | rfl)) ?_
      refine RH.q hh (Calm.sq (Calm.bk (Calm.sq Calm.body))) rfl (by kernel_rfl) (Qt.fld rfl) ?_
      refine RH.q hh (Calm.sq (Calm.bk (Calm.sq Calm.body))) rfl (by kernel_rfl) (Qt.ld rfl (fun _ h => h) (by first  | rfl)) ?_
      refine RH.q hh (Calm.sq (Calm.bk (Calm.sq Calm.body))) rfl (by kernel_rfl) (Qt.fld rfl) ?_
      refine RH.q hh (Calm.sq (Calm.bk (Calm.sq Calm.body))) rfl (by kernel_rfl) (Qt.ld rfl (fun _ h => h) (by first  | rfl)) ?_
      refine RH.q hh (Calm.sq (Calm.bk (Calm.sq Calm.body))) rfl (by kernel_rfl) (Qt.mv rfl) ?_
      refine RH.q hh (Calm.sq (Calm.bk (Calm.sq Calm.body))) rfl (by kernel_rfl) (Qt.fld rfl) ?_
      refine RH.q hh (Calm.sq (Calm.bk (Calm.sq Calm.body))) rfl (by kernel_rfl) (Qt.ld rfl (fun _ h => h) (by first  | rfl)) ?_
      refine RH.q hh (Calm.sq (Calm.bk (Calm.sq Calm.body))) rfl (by kernel_rfl) (Qt.fld rfl) ?_
      refine RH.q hh (Calm.sq (Calm.bk (Calm.sq Calm.body))) rfl (by kernel_rfl) (Qt.ld rfl (fun _ h => h) (by first  | rfl)) ?_
      refine RH.q hh (Calm.sq (Calm.bk (Calm.sq Calm.body))) rfl (by kernel_rfl) (Qt.fld rfl) ?_
      refine RH.q hh (Calm.sq (Calm.bk (Calm.sq Calm.body))) rfl (by kernel_rfl) (Qt.ld rfl (fun _ h => h) (by first  | rfl)) ?_
      refine RH.e hh rfl (by kernel_rfl) (Ef.call hS (phChange p n l x.it) rfl rfl Try.call36 [1] [0, 2, 3] (by decide) rfl rfl) ?_
      rintro v41 w ⟨ps, ⟨rfl, rfl⟩, hS⟩
      refine ⟨hS.get 1 rfl, ?_⟩
      refine RH.done hh (by kernel_rfl) ?_
      -- stops: op call
      refine RL.e (Ef.call hS (rhChange r n l x.it (by omega) hok.nodup) rfl rfl Try.call91 [2] [0, 1, 3] (by decide) rfl rfl) ?_
      rintro v49 w ⟨ps, ⟨rfl, rfl⟩, hS⟩
      refine RL.q (Qt.eql rfl rfl) ?_
      refine RL.q (Qt.as rfl) ?_
      refine RL.nil ?_
      refine RE.sqN ?_
      refine RC.ret ?_
      refine RE.bkR ?_
      refine RE.sqR ?_
      -- stops: end ret
      refine RE.retB rfl ⟨by simp [oneOf], rfl⟩ (hS.pick [1, 0, 3] (by decide) rfl)
    · skip
      have h2 : ¬ x.kind = 1 := of_decide_eq_false h2
      refine RC.seq ?_
      refine RC.region rfl ?_
      refine RL.q (Qt.eql rfl rfl) ?_
      refine RL.q (Qt.as rfl) ?_
      refine RL.nil ?_
      refine RE.sqN ?_
      -- stops: cond
      refine RC.cond rfl (fun h3 => ?_) (fun h3 => ?_)
      · skip
        have h3 : x.kind = 2 := of_decide_eq_true h3
        have e : pDo l n x = pDel l n x.id := by rw [pDo, if_neg h, if_neg h2, if_pos h3]
        rw [e]
        refine RC.seq ?_
        -- stops: drawn
        refine RC.drawn 7 [0, 1, 2, 4, 5, 6, 3] (fun w' => w'.heap[b5]? = some (.cells x.cells.toArray 37 (0, 0))) (by kernel_rfl) (by kernel_rfl) (hS.drew.get 0 rfl) (fun hh => ?_)
        replace hS := hS.drew
        refine RH.q hh (Calm.sq (Calm.bk (Calm.sq Calm.body))) rfl (by kernel_rfl) (Qt.mv rfl) ?_
        refine RH.q hh (Calm.sq (Calm.bk (Calm.sq Calm.body))) rfl (by kernel_rfl) (Qt.fld rfl) ?_
        refine RH.q hh (Calm.sq (Calm.bk (Calm.sq Calm.body))) rfl (by kernel_rfl) (Qt.ld rfl (fun _ h => h) (by first  | rfl)) ?_
        refine RH.q hh (Calm.sq (Calm.bk (Calm.sq Calm.body))) rfl (by kernel_rfl) (Qt.mv rfl) ?_
        refine RH.q hh (Calm.sq (Calm.bk (Calm.sq Calm.body))) rfl (by kernel_rfl) (Qt.fld rfl) ?_
        refine RH.q hh (Calm.sq (Calm.bk (Calm.sq Calm.body))) rfl (by kernel_rfl) (Qt.ld rfl (fun _ h => h) (by first  | rfl)) ?_
        refine RH.e hh rfl (by kernel_rfl) (Ef.call hS (phDelete p n l x.id) rfl rfl Try.call31 [1] [0, 2, 3] (by decide) rfl rfl) ?_
        rintro v56 w ⟨ps, ⟨rfl, rfl⟩, hS⟩
        refine ⟨hS.get 1 rfl, ?_⟩
        refine RH.done hh (by kernel_rfl) ?_
        -- stops: op call
        refine RL.e (Ef.call hS (rhDelete r n l x.id hok.nodup) rfl rfl Try.call92 [2] [0, 1, 3] (by decide) rfl rfl) ?_
        rintro v60 w ⟨ps, ⟨rfl, rfl⟩, hS⟩
        refine RL.q (Qt.eql rfl rfl) ?_
        refine RL.q (Qt.as rfl) ?_
        refine RL.nil ?_
        refine RE.sqN ?_
        refine RC.ret ?_
        refine RE.bkR ?_
        refine RE.sqR ?_
        -- stops: end ret
        refine RE.retB rfl ⟨by simp [oneOf], rfl⟩ (hS.pick [1, 0, 3] (by decide) rfl)
      · skip
        have h3 : ¬ x.kind = 2 := of_decide_eq_false h3
        refine RC.seq ?_
        refine RC.region rfl ?_
        refine RL.q (Qt.eql rfl rfl) ?_
        refine RL.q (Qt.as rfl) ?_
        refine RL.nil ?_
        refine RE.sqN ?_
        -- stops: cond
        refine RC.cond rfl (fun h4 => ?_) (fun h4 => ?_)
        · skip
          have h4 : x.kind = 3 := of_decide_eq_true h4
          have e : pDo l n x = l.tail := by rw [pDo, if_neg h, if_neg h2, if_neg h3, if_pos h4]
          rw [e]
          refine RC.seq ?_
          refine RC.region rfl ?_
          refine RL.q (Qt.mv rfl) ?_
          -- stops: op call
          refine RL.e (Ef.call hS (phTake p n l) rfl rfl Try.call39 [1] [0, 2, 3] (by decide) rfl rfl) ?_
          rintro v66 w ⟨ps, ⟨rfl, rfl⟩, hS⟩
          refine RL.q (Qt.mv rfl) ?_
          refine RL.q (Qt.ext rfl rfl) ?_
          refine RL.q (Qt.ext rfl rfl) ?_
          refine RL.q (Qt.as rfl) ?_
          refine RL.q (Qt.as rfl) ?_
          refine RL.nil ?_
          refine RE.sqN ?_
          refine RC.seq ?_
          refine RC.region rfl ?_
          refine RL.q (Qt.mv rfl) ?_
          -- stops: op call
          refine RL.e (Ef.call hS (rhTake r n l) rfl rfl Try.call93 [2] [0, 1, 3] (by decide) rfl rfl) ?_
          rintro v71 w ⟨ps, ⟨rfl, rfl⟩, hS⟩
          refine RL.q (Qt.mv rfl) ?_
          refine RL.q (Qt.ext rfl rfl) ?_
          refine RL.q (Qt.ext rfl rfl) ?_
          refine RL.q (Qt.as rfl) ?_
          refine RL.q (Qt.as rfl) ?_
          refine RL.nil ?_
          refine RE.sqN ?_
          refine RC.seq ?_
          refine RC.region rfl ?_
          refine RL.q (Qt.mv rfl) ?_
          refine RL.q (Qt.mv rfl) ?_
          refine RL.q (Qt.eql rfl rfl) ?_
          refine RL.q (Qt.mv rfl) ?_
          refine RLG.start 77 true rfl ?_
          refine RLG.q rfl rfl rfl (fun _ => Qt.mv rfl) ?_
          refine RLG.q rfl rfl rfl (fun _ => Qt.mv rfl) ?_
          refine RLG.q rfl rfl rfl (fun hg => by (try simp only [decide_eq_true_eq] at hg); exact Qt.eqlB rfl rfl) ?_
          refine RLG.and rfl rfl ?_
          refine RL.q (Qt.as rfl) ?_
          refine RL.nil ?_
          refine RE.sqN ?_
          refine RC.ret ?_
          refine RE.bkR ?_
          refine RE.sqR ?_
          -- stops: end ret
          refine RE.retB rfl ⟨by simp [oneOf], rfl⟩ (hS.pick [1, 0, 3] (by decide) rfl)
        · refine RC.skip ?_
          refine RE.bkN ?_
          refine RE.sqN ?_
          refine RC.seq ?_
          refine RC.region rfl ?_
          refine RL.q (Qt.as rfl) ?_
          refine RL.nil ?_
          refine RE.sqN ?_
          refine RC.ret ?_
          -- stops: end ret
          have h4 : ¬ x.kind = 3 := of_decide_eq_false h4
          have e : pDo l n x = l := by rw [pDo, if_neg h, if_neg h2, if_neg h3, if_neg h4]
          rw [e]
          exact RE.retB rfl ⟨rfl, rfl⟩ (hS.pick [1, 2, 3] (by decide) rfl)

theorem pDo_nn {l : List PItem} (h : ∀ y ∈ l, 0 ≤ y.dl) (n : Nat) {x : PDeed} (hx : x.ok) : ∀ y ∈ pDo l n x, 0 ≤ y.dl := by
  have hp : ∀ (m : List PItem), (∀ y ∈ m, 0 ≤ y.dl) → ∀ y ∈ pput x.it m, 0 ≤ y.dl := fun m hm y hy => by
    rcases List.mem_cons.1 ((pput_perm x.it m).mem_iff.1 hy) with rfl | hy
    · exact hx.1
    · exact hm y hy
  unfold pDo
  split
  · unfold pIns; split
    · exact hp l h
    · exact h
  · split
    · unfold pChg; split
      · exact hp _ fun y hy => h y (mem_pout.1 hy).1
      · exact h
    · split
      · unfold pDel; split
        · exact fun y hy => h y (mem_pout.1 hy).1
        · exact h
      · split
        · exact fun y hy => h y (List.mem_of_mem_tail hy)
        · exact h

abbrev PDeedsAt (v : Value) (ds : List PDeed) (F0 : Frag) : Prop := RowsAt PDeed.cells 4 v ds F0

set_option maxHeartbeats 2000000 in
theorem phPlay (n : Int) (hn : 0 ≤ n ∧ n ≤ 255) (v : Value) (ds : List PDeed) (F0 : Frag) (hR : PDeedsAt v ds F0) (hd : ∀ x ∈ ds, x.ok) : Ct Try.prog 28 #[.int .u8 n, v] [pin F0] (fun v' ps => ∃ b r l, v' = .tuple #[.pointer (some ⟨b, 0, none⟩), r, .bool true] ∧ (∀ y ∈ l, 0 ≤ y.dl) ∧ ps = [hO (.pointer (some ⟨b, 0, none⟩)) (n % 16 + 1).toNat l, rhO r (n % 16 + 1).toNat l, pin F0]) := by
  obtain ⟨pa, cap, rfl, hR⟩ := hR
  refine Ct.enter Try.func28 rfl (Nat.le_of_ble_eq_true rfl) ?_
  intro oo w R hS
  change RC _ _ _ _ _ _ [(0, _), (1, _)] _
  refine RC.seq ?_
  refine RC.region rfl ?_
  refine RL.q (Qt.as rfl) ?_
  refine RL.q (Qt.as rfl) ?_
  refine RL.q (Qt.as rfl) ?_
  refine RL.nil ?_
  refine RE.sqN ?_
  refine RC.seq ?_
  refine RC.region rfl ?_
  refine RL.q (Qt.mv rfl) ?_
  refine RL.q ((by first | exact Qt.cvtI rfl (by dsimp only [inK]; omega) | exact Qt.cvt rfl)) ?_
  refine RL.q ((by first | exact Qt.remI rfl rfl (by omega) | exact Qt.rem rfl rfl (by first | decide | omega))) ?_
  refine RL.q ((by first | exact Qt.addI rfl rfl (by dsimp only [inK]; omega) | exact Qt.add rfl rfl)) ?_
  -- stops: op call
  refine RL.e (Ef.call hS (phNew (n % 16 + 1) (by omega) (by omega)) rfl rfl Try.call43 [] [0, 1] (by decide) rfl rfl) ?_
  rintro v14 w ⟨ps, ⟨⟨bq, rfl⟩, rfl⟩, hS⟩
  refine RL.q (Qt.mv rfl) ?_
  refine RL.q ((by first | exact Qt.cvtI rfl (by dsimp only [inK]; omega) | exact Qt.cvt rfl)) ?_
  refine RL.q ((by first | exact Qt.remI rfl rfl (by omega) | exact Qt.rem rfl rfl (by first | decide | omega))) ?_
  refine RL.q ((by first | exact Qt.addI rfl rfl (by dsimp only [inK]; omega) | exact Qt.add rfl rfl)) ?_
  -- stops: op call
  refine RL.e (Ef.call hS (rhNew (n % 16 + 1) (by omega) (by omega)) rfl rfl Try.call81 [] [0, 1, 2] (by decide) rfl rfl) ?_
  rintro v19 w ⟨ps, rfl, hS⟩
  refine RL.q (Qt.as rfl) ?_
  refine RL.q (Qt.as rfl) ?_
  refine RL.nil ?_
  refine RE.sqN ?_
  refine RC.seq ?_
  refine RC.seq ?_
  refine RC.region rfl ?_
  refine RL.q (Qt.as rfl) ?_
  refine RL.nil ?_
  refine RE.sqN ?_
  refine RC.block ?_
  -- stops: loop
  refine RC.loop (γ := Nat × List PItem) (fun g E w' => E = [(9, .int .i64 g.1), (7, .pointer (some ⟨bq, 0, none⟩)), (8, v19), (1, .slice pa ds.length cap)] ∧ Sat oo w' [hO (.pointer (some ⟨bq, 0, none⟩)) (n % 16 + 1).toNat g.2, rhO v19 (n % 16 + 1).toNat g.2, pin F0, R] ∧ g.1 ≤ ds.length ∧ g.1 ≤ 100 ∧ ∀ y ∈ g.2, 0 ≤ y.dl) (fun g => ds.length - g.1) (0, []) _ (by (repeat (first | exact Sub.nil | refine Sub.cons rfl ?_))) ⟨rfl, hS.pick [1, 0, 2, 3] (by decide) rfl, by simp, by simp, by simp⟩ ?_
  clear hS
  rintro ⟨k, l⟩ E w ⟨rfl, hS, hk, hk2, hnn⟩
  dsimp only at hk hk2 hnn
  refine RC.seq ?_
  refine RC.seq ?_
  refine RC.region rfl ?_
  refine RL.q (Qt.mv rfl) ?_
  refine RL.q (Qt.mv rfl) ?_
  refine RL.q (Qt.lenS rfl) ?_
  refine RL.q (Qt.lss rfl rfl) ?_
  refine RL.q (Qt.mv rfl) ?_
  refine RLG.start 24 true rfl ?_
  refine RLG.q rfl rfl rfl (fun _ => Qt.mv rfl) ?_
  refine RLG.q rfl rfl rfl (fun hg => by (try simp only [decide_eq_true_eq] at hg); exact Qt.lss rfl rfl) ?_
  refine RLG.and rfl rfl ?_
  refine RL.nil ?_
  refine RE.sqN ?_
  -- stops: cond
  refine RC.cond rfl (fun h => ?_) (fun h => ?_)
  · skip
    have h : k < ds.length ∧ k < 100 := by
      simp only [Bool.and_eq_true, decide_eq_true_eq] at h
      omega
    obtain ⟨b, off, c, T, fz, rfl, hmem, hle, hrow⟩ := hR (by omega)
    have hrow := hrow k h.1
    refine RC.skip ?_
    refine RE.sqN ?_
    refine RC.seq ?_
    refine RC.block ?_
    refine RC.seq ?_
    refine RC.region rfl ?_
    refine RL.q (Qt.mv rfl) ?_
    refine RL.q (Qt.mv rfl) ?_
    refine RL.q (Qt.mv rfl) ?_
    refine RL.q (Qt.mv rfl) ?_
    refine RL.q (Qt.ixS rfl rfl (by first | assumption | omega | (dsimp only; omega)) (by first | assumption | omega | (dsimp only; omega))) ?_
    refine RL.q (Qt.ldA rfl (hS.atPin 2 rfl hmem) (by first | exact hrow | rfl) (by first | exact Nat.le_of_ble_eq_true rfl | omega | (simp only [Array.size_map]; omega))) ?_
    -- stops: op call
    refine RL.e (Ef.call hS (phDo _ v19 _ l ds[k]) rfl rfl Try.call42 [0, 1] [2, 3] (by decide) rfl rfl) ?_
    rintro v36 w ⟨ps, ⟨rfl, rfl⟩, hS⟩
    refine RL.q (Qt.not rfl) ?_
    refine RL.nil ?_
    refine RE.sqN ?_
    -- stops: cond
    refine RC.condF rfl (rfl) ?_
    refine RC.skip ?_
    refine RE.bkN ?_
    refine RE.sqN ?_
    refine RC.region rfl ?_
    refine RL.q (Qt.mv rfl) ?_
    refine RL.q ((by first | exact Qt.addI rfl rfl (by dsimp only [inK]; omega) | exact Qt.add rfl rfl)) ?_
    refine RL.q (Qt.as rfl) ?_
    refine RL.nil ?_
    -- stops: next
    apply RE.lpN ((k + 1, pDo l (n % 16 + 1).toNat ds[k]))
    case hI => exact ⟨rfl, hS, h.1, h.2, pDo_nn hnn _ (hd _ (List.getElem_mem h.1))⟩
    case hs => (repeat (first | exact Sub.nil | refine Sub.cons rfl ?_))
    case hm =>
      show ds.length - (k + 1) < ds.length - k
      omega
  · refine RC.exit ?_
    refine RE.sqX ?_
    refine RE.lpX ?_
    refine RE.bkX ?_
    refine RE.sqN ?_
    refine RC.seq ?_
    refine RC.region rfl ?_
    refine RL.q (Qt.mv rfl) ?_
    refine RL.q (Qt.mv rfl) ?_
    refine RL.q (Qt.as rfl) ?_
    refine RL.q (Qt.as rfl) ?_
    refine RL.q (Qt.as rfl) ?_
    refine RL.nil ?_
    refine RE.sqN ?_
    refine RC.ret ?_
    -- stops: end ret
    exact RE.retB rfl ⟨bq, v19, l, rfl, hnn, rfl⟩ hS

set_option maxHeartbeats 4000000 in
theorem phSame (p r : Value) (n : Nat) (l : List PItem) (id : Int) : Ct Try.prog 37 #[p, r, .int .i64 id] [hO p n l, rhO r n l] (fun v ps => v = .bool true ∧ ps = [hO p n l, rhO r n l]) := by
  refine Ct.enter Try.func37 rfl (Nat.le_of_ble_eq_true rfl) ?_
  intro oo w R hS
  change RC _ _ _ _ _ _ [(0, _), (1, _), (2, _)] _
  obtain ⟨hok, hn1, hn2⟩ := hO_pok hS
  have hlen := hok.lenLe
  refine RC.seq ?_
  refine RC.region rfl ?_
  refine RL.q (Qt.as rfl) ?_
  refine RL.nil ?_
  refine RE.sqN ?_
  refine RC.seq ?_
  refine RC.region rfl ?_
  refine RL.q (Qt.mv rfl) ?_
  -- stops: op call
  refine RL.e (Ef.call hS (phMin p n l) rfl rfl Try.call35 [0] [1, 2] (by decide) rfl rfl) ?_
  rintro v19 w ⟨ps, ⟨rfl, rfl⟩, hS⟩
  refine RL.q (Qt.mv rfl) ?_
  refine RL.q (Qt.ext rfl rfl) ?_
  refine RL.q (Qt.ext rfl rfl) ?_
  refine RL.q (Qt.as rfl) ?_
  refine RL.q (Qt.as rfl) ?_
  refine RL.nil ?_
  refine RE.sqN ?_
  refine RC.seq ?_
  refine RC.region rfl ?_
  refine RL.q (Qt.mv rfl) ?_
  -- stops: op call
  refine RL.e (Ef.call hS (rhMin r n l) rfl rfl Try.call85 [1] [0, 2] (by decide) rfl rfl) ?_
  rintro v24 w ⟨ps, ⟨rfl, rfl⟩, hS⟩
  refine RL.q (Qt.mv rfl) ?_
  refine RL.q (Qt.ext rfl rfl) ?_
  refine RL.q (Qt.ext rfl rfl) ?_
  refine RL.q (Qt.as rfl) ?_
  refine RL.q (Qt.as rfl) ?_
  refine RL.nil ?_
  refine RE.sqN ?_
  refine RC.seq ?_
  refine RC.region rfl ?_
  refine RL.q (Qt.mv rfl) ?_
  refine RL.q (Qt.mv rfl) ?_
  -- stops: op call
  refine RL.e (Ef.call hS (phGet p n l id) rfl rfl Try.call38 [1] [0, 2] (by decide) rfl rfl) ?_
  rintro v30 w ⟨ps, ⟨rfl, rfl⟩, hS⟩
  refine RL.q (Qt.mv rfl) ?_
  refine RL.q (Qt.ext rfl rfl) ?_
  refine RL.q (Qt.ext rfl rfl) ?_
  refine RL.q (Qt.ext rfl rfl) ?_
  refine RL.q (Qt.as rfl) ?_
  refine RL.q (Qt.as rfl) ?_
  refine RL.q (Qt.as rfl) ?_
  refine RL.nil ?_
  refine RE.sqN ?_
  refine RC.seq ?_
  refine RC.region rfl ?_
  refine RL.q (Qt.mv rfl) ?_
  refine RL.q (Qt.mv rfl) ?_
  -- stops: op call
  refine RL.e (Ef.call hS (rhGet r n l id hok.nodup) rfl rfl Try.call86 [1] [0, 2] (by decide) rfl rfl) ?_
  rintro v37 w ⟨ps, ⟨rfl, rfl⟩, hS⟩
  refine RL.q (Qt.mv rfl) ?_
  refine RL.q (Qt.ext rfl rfl) ?_
  refine RL.q (Qt.ext rfl rfl) ?_
  refine RL.q (Qt.ext rfl rfl) ?_
  refine RL.q (Qt.as rfl) ?_
  refine RL.q (Qt.as rfl) ?_
  refine RL.q (Qt.as rfl) ?_
  refine RL.nil ?_
  refine RE.sqN ?_
  refine RC.seq ?_
  refine RC.region rfl ?_
  refine RL.q (Qt.mv rfl) ?_
  refine RL.q (Qt.mv rfl) ?_
  refine RL.q (Qt.eql rfl rfl) ?_
  refine RL.q (Qt.mv rfl) ?_
  refine RLG.start 44 true rfl ?_
  refine RLG.q rfl rfl rfl (fun _ => Qt.mv rfl) ?_
  refine RLG.q rfl rfl rfl (fun _ => Qt.mv rfl) ?_
  refine RLG.q rfl rfl rfl (fun hg => by (try simp only [decide_eq_true_eq] at hg); exact Qt.eqlB rfl rfl) ?_
  refine RLG.and rfl rfl ?_
  refine RL.q (Qt.mv rfl) ?_
  refine RLG.start 49 true rfl ?_
  refine RLG.q rfl rfl rfl (fun _ => Qt.mv rfl) ?_
  refine RLG.q rfl rfl rfl (fun _ => Qt.mv rfl) ?_
  refine RLG.q rfl rfl rfl (fun hg => by (try simp only [decide_eq_true_eq, Bool.and_eq_true] at hg); exact Qt.eql rfl rfl) ?_
  refine RLG.and rfl rfl ?_
  refine RL.q (Qt.mv rfl) ?_
  refine RLG.start 54 true rfl ?_
  refine RLG.q rfl rfl rfl (fun _ => Qt.mv rfl) ?_
  refine RLG.q rfl rfl rfl (fun _ => Qt.mv rfl) ?_
  refine RLG.q rfl rfl rfl (fun hg => by (try simp only [decide_eq_true_eq, Bool.and_eq_true] at hg); exact Qt.eql rfl rfl) ?_
  refine RLG.and rfl rfl ?_
  refine RL.q (Qt.mv rfl) ?_
  refine RLG.start 59 true rfl ?_
  refine RLG.q rfl rfl rfl (fun _ => Qt.mv rfl) ?_
  refine RLG.q rfl rfl rfl (fun _ => Qt.mv rfl) ?_
  refine RLG.q rfl rfl rfl (fun hg => by (try simp only [decide_eq_true_eq, Bool.and_eq_true] at hg); exact Qt.eqlB rfl rfl) ?_
  refine RLG.and rfl rfl ?_
  refine RL.q (Qt.mv rfl) ?_
  -- stops: guard
  refine RL.q (Qt.mv rfl) ?_ (Runs.guard rfl rfl rfl (by simp))
  -- stops: op call
  refine RL.e (Ef.call hS (phLen p n l) rfl rfl Try.call33 [1] [0, 2] (by decide) rfl rfl) ?_ (Runs.guard rfl rfl rfl (by simp))
  rintro v66 w ⟨ps, ⟨rfl, rfl⟩, hS⟩
  refine RL.q (Qt.mv rfl) ?_ (Runs.guard rfl rfl rfl (by simp))
  -- stops: op call
  refine RL.e (Ef.call hS (rhLen r n l) rfl rfl Try.call87 [1] [0, 2] (by decide) rfl rfl) ?_ (Runs.guard rfl rfl rfl (by simp))
  rintro v68 w ⟨ps, ⟨rfl, rfl⟩, hS⟩
  refine RL.q (Qt.eql rfl rfl) ?_ (Runs.guard rfl rfl rfl (by simp))
  refine RL.q ((by first | exact Qt.pickT rfl (by assumption) rfl | exact Qt.pickF rfl (by assumption) rfl | exact Qt.pickT rfl rfl rfl | exact Qt.pickF rfl rfl rfl | exact Qt.pickT rfl (by simp) rfl)) ?_
  refine RL.q (Qt.mv rfl) ?_
  -- stops: guard
  refine RL.q (Qt.mv rfl) ?_ (Runs.guard rfl rfl rfl (by simp))
  -- stops: op call
  refine RL.e (Ef.call hS (phList p n l) rfl rfl Try.call30 [1] [0, 2] (by decide) rfl rfl) ?_ (Runs.guard rfl rfl rfl (by simp))
  rintro v73 w ⟨ps, rfl, hS⟩
  refine RL.q (Qt.mv rfl) ?_ (Runs.guard rfl rfl rfl (by simp))
  -- stops: op call
  refine RL.e (Ef.call hS (rhList r n l) rfl rfl Try.call88 [2] [0, 1, 3] (by decide) rfl rfl) ?_ (Runs.guard rfl rfl rfl (by simp))
  rintro v75 w ⟨ps, rfl, hS⟩
  -- stops: op call
  refine RL.e (Ef.call hS (rSame _ _ (pIds l) (pIds l) (by rw [pIds, List.length_map]; omega)) rfl rfl Try.call32 [2, 0] [1, 3, 4] (by decide) rfl rfl) ?_ (Runs.guard rfl rfl rfl (by simp))
  rintro v76 w ⟨ps, ⟨rfl, rfl⟩, hS⟩
  refine RL.q ((by first | exact Qt.pickT rfl (by assumption) rfl | exact Qt.pickF rfl (by assumption) rfl | exact Qt.pickT rfl rfl rfl | exact Qt.pickF rfl rfl rfl | exact Qt.pickT rfl (by simp) rfl)) ?_
  refine RL.q (Qt.as rfl) ?_
  refine RL.nil ?_
  refine RE.sqN ?_
  refine RC.ret ?_
  -- stops: end ret
  exact RE.retB rfl ⟨by simp [oneOf], rfl⟩ (hS.pick [1, 0, 2] (by decide) rfl)
end Go.Proofs

/- The laws of layer 10: what live, do, play and same come to. -/
import Derived.Test.YtlicnplclfclcaaRd4
import Derived.Test.YtlicnplclfclcaaSame
import Derived.Test.YtlicnplclfclcaaArg
namespace Go.Proofs
open Go Go.Gx
variable {oo : World}

set_option maxHeartbeats 2000000 in
theorem rdLive : Ct Try.prog 45 #[] [] (fun v ps => v = .bool true ∧ ∃ p l, ps = [sO p 4 4 2 l]) := by
  refine Ct.enter Try.func45 rfl (Nat.le_of_ble_eq_true rfl) ?_
  intro oo w R hS
  change RC _ _ _ _ _ _ [] _
  refine RC.seq ?_
  refine RC.region rfl ?_
  refine RL.q (Qt.as rfl) ?_
  refine RL.nil ?_
  refine RE.sqN ?_
  refine RC.seq ?_
  refine RC.region rfl ?_
  -- stops: op call
  refine RL.e (Ef.call hS (rdNew 4 4 (by decide) (by decide) (by decide) (by decide)) rfl rfl Try.call67 [] [0] (by decide) rfl rfl) ?_
  rintro v7 w ⟨ps, ⟨⟨bq, rfl⟩, rfl⟩, hS⟩
  refine RL.q (Qt.as rfl) ?_
  refine RL.nil ?_
  refine RE.sqN ?_
  refine RC.seq ?_
  refine RC.region rfl ?_
  refine RL.q (Qt.mv rfl) ?_
  refine RL.q (Qt.bldV [.const (Go.Value.bool false), .const (Go.Value.int Go.IntKind.u64 0), .const (Go.Value.int Go.IntKind.u8 3)] rfl rfl (by kernel_rfl)) ?_
  -- stops: op call
  refine RL.e (Ef.call hS (rdPut _ 4 4 0 [] 1 (kFixed 3) ⟨by decide, by decide⟩ (by decide)) rfl rfl Try.call61 [0] [1] (by decide) rfl rfl) ?_
  rintro v10 w ⟨ps, ⟨rfl, rfl⟩, hS⟩
  refine RL.q (Qt.as rfl) ?_
  refine RL.nil ?_
  refine RE.sqN ?_
  refine RC.seq ?_
  refine RC.region rfl ?_
  refine RL.q (Qt.mv rfl) ?_
  refine RL.q (Qt.bldV [.const (Go.Value.bool true), .const (Go.Value.int Go.IntKind.u64 9), .const (Go.Value.int Go.IntKind.u8 0)] rfl rfl (by kernel_rfl)) ?_
  -- stops: op call
  refine RL.e (Ef.call hS (rdPut _ 4 4 1 _ 2 (kDead 9) ⟨by decide, by decide⟩ (by decide)) rfl rfl Try.call61 [0] [1] (by decide) rfl rfl) ?_
  rintro v13 w ⟨ps, ⟨rfl, rfl⟩, hS⟩
  refine RL.q (Qt.as rfl) ?_
  refine RL.nil ?_
  refine RE.sqN ?_
  refine RC.seq ?_
  refine RC.region rfl ?_
  refine RL.q (Qt.mv rfl) ?_
  -- stops: op call
  refine RL.e (Ef.call hS (rdTake _ 4 4 2 _) rfl rfl Try.call48 [0] [1] (by decide) rfl rfl) ?_
  rintro v16 w ⟨ps, ⟨rfl, rfl⟩, hS⟩
  refine RL.q (Qt.mv rfl) ?_
  refine RL.q (Qt.ext rfl rfl) ?_
  refine RL.q (Qt.ext rfl rfl) ?_
  refine RL.q (Qt.ext rfl rfl) ?_
  refine RL.e (Ef.alloc hS) ?_
  rintro _ w ⟨b5, rfl, hS⟩
  try simp (disch := omega) only [cells_agg'] at hS
  refine RL.q (Qt.as rfl) ?_
  first | refine RL.e0 (Ef.st hS 0 rfl rfl rfl (by rfl) (by rfl) (by first | exact Nat.le_of_ble_eq_true rfl | omega | (simp only [Array.size_map]; omega))) ?_ | refine RL.e0 (Ef.st hS 1 rfl rfl rfl (by rfl) (by rfl) (by first | exact Nat.le_of_ble_eq_true rfl | omega | (simp only [Array.size_map]; omega))) ?_ | refine RL.e0 (Ef.st hS 2 rfl rfl rfl (by rfl) (by rfl) (by first | exact Nat.le_of_ble_eq_true rfl | omega | (simp only [Array.size_map]; omega))) ?_
  intro _ w hS
  simp (disch := omega) only [List.set_cons_zero, cells_agg'] at hS
  refine RL.q (Qt.as rfl) ?_
  refine RL.nil ?_
  refine RE.sqN ?_
  refine RC.seq ?_
  refine RC.region rfl ?_
  refine RL.q (Qt.mv rfl) ?_
  refine RL.q (Qt.eql rfl rfl) ?_
  refine RL.q (Qt.mv rfl) ?_
  refine RLG.start 22 true rfl ?_
  refine RLG.q rfl rfl rfl (fun _ => Qt.mv rfl) ?_
  refine RLG.q rfl rfl rfl (fun hg => by (try simp only [decide_eq_true_eq] at hg); exact Qt.eql rfl rfl) ?_
  refine RLG.and rfl rfl ?_
  refine RL.q (Qt.mv rfl) ?_
  refine RLG.start 26 true rfl ?_
  refine RLG.q rfl rfl rfl (fun _ => Qt.mv rfl) ?_
  refine RLG.and rfl rfl ?_
  refine RL.q (Qt.mv rfl) ?_
  refine RLG.start 29 true rfl ?_
  refine RLG.q rfl rfl rfl (fun _ => Qt.mv rfl) ?_
  refine RLG.q rfl rfl rfl (fun hg => by (try simp only [decide_eq_true_eq, Bool.and_eq_true] at hg); exact Qt.eql rfl rfl) ?_
  refine RLG.and rfl rfl ?_
  refine RL.q (Qt.mv rfl) ?_
  refine RLG.start 33 true rfl ?_
  refine RLG.q rfl rfl rfl (fun _ => Qt.fld rfl) ?_
  refine RLG.q rfl rfl rfl (fun hg => by (try simp only [decide_eq_true_eq, Bool.and_eq_true] at hg); exact Qt.ld rfl (by first | exact hS.at 0 rfl | exact hS.at 1 rfl | exact hS.at 2 rfl) (by first  | rfl)) ?_
  refine RLG.q rfl rfl rfl (fun hg => by (try simp only [decide_eq_true_eq, Bool.and_eq_true] at hg); exact Qt.eql rfl rfl) ?_
  refine RLG.and rfl rfl ?_
  refine RL.q (Qt.mv rfl) ?_
  -- stops: guard
  refine RL.q (Qt.mv rfl) ?_ (Runs.guard rfl rfl rfl (rfl))
  -- stops: op call
  refine RL.e (Ef.call hS (rdLen _ 4 4 2 _) rfl rfl Try.call50 [1] [0, 2] (by decide) rfl rfl) ?_ (Runs.guard rfl rfl rfl (rfl))
  rintro v40 w ⟨ps, ⟨rfl, rfl⟩, hS⟩
  refine RL.q (Qt.eql rfl rfl) ?_ (Runs.guard rfl rfl rfl (rfl))
  refine RL.q ((by first | exact Qt.pickT rfl (by assumption) rfl | exact Qt.pickF rfl (by assumption) rfl | exact Qt.pickT rfl rfl rfl | exact Qt.pickF rfl rfl rfl)) ?_
  refine RL.q (Qt.as rfl) ?_
  refine RL.nil ?_
  refine RE.sqN ?_
  refine RC.ret ?_
  -- stops: end ret
  exact RE.retB rfl ⟨rfl, _, _, rfl⟩ (hS.pick [0, 2] (by decide) rfl)

structure RDeed where
  kind : Int
  id : Int
  k : KKey
deriving Inhabited
def RDeed.cells (x : RDeed) : List Value := [.int .i64 x.kind, .int .i64 x.id, .bool x.k.edf, .int .u64 x.k.dl, .int .u8 x.k.lv]
def RDeed.val (x : RDeed) : Value := .agg x.cells.toArray
def RDeed.ok (x : RDeed) : Prop := x.k.ok

/-- What a deed leaves. -/
def kDo (l : List KItem) (n : Nat) (most : Int) (x : RDeed) : List KItem := if x.kind = 0 then kPut l n most x.id x.k else if x.kind = 1 then kChg l n x.id x.k else if x.kind = 2 then kRem l n x.id else if x.kind = 3 then l.tail else l

set_option maxHeartbeats 4000000 in
theorem rdDo (p r : Value) (n : Nat) (most B : Int) (l : List KItem) (x : RDeed) (hx : x.ok) (hB : B + 1 ≤ 18446744073709551615) : Ct Try.prog 65 #[p, r, x.val] [sO p n most B l, rsO r n most l] (fun v ps => v = .bool true ∧ ps = [sO p n most (B + 1) (kDo l n most x), rsO r n most (kDo l n most x)]) := by
  refine Ct.enter Try.func65 rfl (Nat.le_of_ble_eq_true rfl) ?_
  intro oo w R hS
  change RC _ _ _ _ _ _ [(0, _), (1, _), (2, _)] _
  obtain ⟨hok, hn⟩ := sO_ok hS
  have hlen := hok.lenLe
  have hkx : x.cells.toArray.extract (0 + 2) (0 + 2 + 3) = x.k.cells.toArray := rfl
  have hkw : ∀ k : KKey, (wr #[.bool false, .int .u64 0, .int .u8 0] 0 k.cells).extract 0 (0 + 3) = k.cells.toArray := fun k => rfl
  refine RC.seq ?_
  refine RC.region rfl ?_
  refine RL.e (Ef.box hS rfl) ?_
  rintro _ w ⟨b5, rfl, hS⟩
  try simp (disch := omega) only [List.set_cons_zero, List.set_cons_succ, cells_int, cells_bool, cells_ptr, cells_slice, cells_func, cells_agg, cells_map, cells_int', cells_bool', cells_ptr', cells_slice', cells_agg', cells_map', cells_func', Nat.zero_add, wr, List.setIfInBounds_toArray] at hS
  refine RL.q (Qt.as rfl) ?_
  refine RL.nil ?_
  refine RE.sqN ?_
  refine RC.seq ?_
  refine RC.seq ?_
  refine RC.region rfl ?_
  refine RL.q (Qt.fld rfl) ?_
  refine RL.q (Qt.ld rfl (by first | exact hS.at 0 rfl | exact hS.at 1 rfl | exact hS.at 2 rfl | exact hS.at 3 rfl) (by first  | rfl)) ?_
  refine RL.nil ?_
  refine RE.sqN ?_
  refine RC.block ?_
  refine RC.seq ?_
  refine RC.region rfl ?_
  refine RL.q (Qt.eql rfl rfl) ?_
  refine RL.q (Qt.as rfl) ?_
  refine RL.nil ?_
  refine RE.sqN ?_
  -- stops: cond
  refine RC.cond rfl (fun h => ?_) (fun h => ?_)
  · skip
    have h : x.kind = 0 := of_decide_eq_true h
    have e : kDo l n most x = kPut l n most x.id x.k := by rw [kDo, if_pos h]
    rw [e]
    refine RC.seq ?_
    -- stops: drawn
    refine RC.drawn 14 [0, 1, 2, 3, 4, 6, 7, 8, 9, 10, 5, 11, 12, 13] (fun w' => w'.heap[b5]? = some (.cells x.cells.toArray 77 (0, 0))) (by kernel_rfl) (by kernel_rfl) ((by first | exact hS.drew.get 0 rfl | exact hS.drew.get 1 rfl | exact hS.drew.get 2 rfl | exact hS.drew.get 3 rfl | exact hS.drew.get 4 rfl | exact hS.drew.get 5 rfl)) (fun hh => ?_)
    replace hS := hS.drew
    refine RH.q hh (Calm.sq (Calm.bk (Calm.sq Calm.body))) rfl (by kernel_rfl) (Qt.mv rfl) ?_
    refine RH.q hh (Calm.sq (Calm.bk (Calm.sq Calm.body))) rfl (by kernel_rfl) (Qt.fld rfl) ?_
    refine RH.q hh (Calm.sq (Calm.bk (Calm.sq Calm.body))) rfl (by kernel_rfl) (Qt.ld rfl (fun _ h => h) (by first  | rfl)) ?_
    refine RH.q hh (Calm.sq (Calm.bk (Calm.sq Calm.body))) rfl (by kernel_rfl) (Qt.fld rfl) ?_
    refine RH.q hh (Calm.sq (Calm.bk (Calm.sq Calm.body))) rfl (by kernel_rfl) (Qt.ldA rfl (fun _ h => h) (by first | exact hkx | exact hkw _ | rfl) (by first | exact Nat.le_of_ble_eq_true rfl | omega | (simp only [Array.size_map]; omega))) ?_
    refine RH.q hh (Calm.sq (Calm.bk (Calm.sq Calm.body))) rfl (by kernel_rfl) (Qt.mv rfl) ?_
    refine RH.q hh (Calm.sq (Calm.bk (Calm.sq Calm.body))) rfl (by kernel_rfl) (Qt.fld rfl) ?_
    refine RH.q hh (Calm.sq (Calm.bk (Calm.sq Calm.body))) rfl (by kernel_rfl) (Qt.ld rfl (fun _ h => h) (by first  | rfl)) ?_
    refine RH.q hh (Calm.sq (Calm.bk (Calm.sq Calm.body))) rfl (by kernel_rfl) (Qt.fld rfl) ?_
    refine RH.q hh (Calm.sq (Calm.bk (Calm.sq Calm.body))) rfl (by kernel_rfl) (Qt.ldA rfl (fun _ h => h) (by first | exact hkx | exact hkw _ | rfl) (by first | exact Nat.le_of_ble_eq_true rfl | omega | (simp only [Array.size_map]; omega))) ?_
    refine RH.e hh rfl (by kernel_rfl) (Ef.call hS (rdPut p n most B l x.id x.k hx hB) rfl rfl Try.call61 [1] [0, 2, 3] (by decide) rfl rfl) ?_
    rintro v22 w ⟨ps, ⟨rfl, rfl⟩, hS⟩
    refine ⟨(by first | exact hS.get 0 rfl | exact hS.get 1 rfl | exact hS.get 2 rfl | exact hS.get 3 rfl | exact hS.get 4 rfl | exact hS.get 5 rfl), ?_⟩
    refine RH.e hh rfl (by kernel_rfl) (Ef.call hS (rsPut r n most l x.id x.k (by omega)) rfl rfl Try.call110 [2] [0, 1, 3] (by decide) rfl rfl) ?_
    rintro v28 w ⟨ps, ⟨rfl, rfl⟩, hS⟩
    refine ⟨(by first | exact hS.get 0 rfl | exact hS.get 1 rfl | exact hS.get 2 rfl | exact hS.get 3 rfl | exact hS.get 4 rfl | exact hS.get 5 rfl), ?_⟩
    refine RH.q hh (Calm.sq (Calm.bk (Calm.sq Calm.body))) rfl (by kernel_rfl) (Qt.eql rfl rfl) ?_
    refine RH.q hh (Calm.sq (Calm.bk (Calm.sq Calm.body))) rfl (by kernel_rfl) (Qt.as rfl) ?_
    refine RH.done hh (by kernel_rfl) ?_
    refine RL.nil ?_
    refine RE.sqN ?_
    refine RC.ret ?_
    refine RE.bkR ?_
    refine RE.sqR ?_
    -- stops: end ret
    refine RE.retB rfl ⟨by simp [oneOf], rfl⟩ (hS.pick [1, 0, 3] (by decide) rfl)
  · skip
    have h : ¬ x.kind = 0 := of_decide_eq_false h
    refine RC.seq ?_
    refine RC.region rfl ?_
    refine RL.q (Qt.eql rfl rfl) ?_
    refine RL.q (Qt.as rfl) ?_
    refine RL.nil ?_
    refine RE.sqN ?_
    -- stops: cond
    refine RC.cond rfl (fun h2 => ?_) (fun h2 => ?_)
    · skip
      have h2 : x.kind = 1 := of_decide_eq_true h2
      have e : kDo l n most x = kChg l n x.id x.k := by rw [kDo, if_neg h, if_pos h2]
      rw [e]
      refine RC.seq ?_
      -- stops: drawn
      refine RC.drawn 14 [0, 1, 2, 3, 4, 6, 7, 8, 9, 10, 5, 11, 12, 13] (fun w' => w'.heap[b5]? = some (.cells x.cells.toArray 77 (0, 0))) (by kernel_rfl) (by kernel_rfl) ((by first | exact hS.drew.get 0 rfl | exact hS.drew.get 1 rfl | exact hS.drew.get 2 rfl | exact hS.drew.get 3 rfl | exact hS.drew.get 4 rfl | exact hS.drew.get 5 rfl)) (fun hh => ?_)
      replace hS := hS.drew
      refine RH.q hh (Calm.sq (Calm.bk (Calm.sq Calm.body))) rfl (by kernel_rfl) (Qt.mv rfl) ?_
      refine RH.q hh (Calm.sq (Calm.bk (Calm.sq Calm.body))) rfl (by kernel_rfl) (Qt.fld rfl) ?_
      refine RH.q hh (Calm.sq (Calm.bk (Calm.sq Calm.body))) rfl (by kernel_rfl) (Qt.ld rfl (fun _ h => h) (by first  | rfl)) ?_
      refine RH.q hh (Calm.sq (Calm.bk (Calm.sq Calm.body))) rfl (by kernel_rfl) (Qt.fld rfl) ?_
      refine RH.q hh (Calm.sq (Calm.bk (Calm.sq Calm.body))) rfl (by kernel_rfl) (Qt.ldA rfl (fun _ h => h) (by first | exact hkx | exact hkw _ | rfl) (by first | exact Nat.le_of_ble_eq_true rfl | omega | (simp only [Array.size_map]; omega))) ?_
      refine RH.q hh (Calm.sq (Calm.bk (Calm.sq Calm.body))) rfl (by kernel_rfl) (Qt.mv rfl) ?_
      refine RH.q hh (Calm.sq (Calm.bk (Calm.sq Calm.body))) rfl (by kernel_rfl) (Qt.fld rfl) ?_
      refine RH.q hh (Calm.sq (Calm.bk (Calm.sq Calm.body))) rfl (by kernel_rfl) (Qt.ld rfl (fun _ h => h) (by first  | rfl)) ?_
      refine RH.q hh (Calm.sq (Calm.bk (Calm.sq Calm.body))) rfl (by kernel_rfl) (Qt.fld rfl) ?_
      refine RH.q hh (Calm.sq (Calm.bk (Calm.sq Calm.body))) rfl (by kernel_rfl) (Qt.ldA rfl (fun _ h => h) (by first | exact hkx | exact hkw _ | rfl) (by first | exact Nat.le_of_ble_eq_true rfl | omega | (simp only [Array.size_map]; omega))) ?_
      refine RH.e hh rfl (by kernel_rfl) (Ef.call hS (rdChange p n most B l x.id x.k hx hB) rfl rfl Try.call60 [1] [0, 2, 3] (by decide) rfl rfl) ?_
      rintro v37 w ⟨ps, ⟨rfl, rfl⟩, hS⟩
      refine ⟨(by first | exact hS.get 0 rfl | exact hS.get 1 rfl | exact hS.get 2 rfl | exact hS.get 3 rfl | exact hS.get 4 rfl | exact hS.get 5 rfl), ?_⟩
      refine RH.e hh rfl (by kernel_rfl) (Ef.call hS (rsChange r n most l x.id x.k (by omega) hok.nodup) rfl rfl Try.call111 [2] [0, 1, 3] (by decide) rfl rfl) ?_
      rintro v43 w ⟨ps, ⟨rfl, rfl⟩, hS⟩
      refine ⟨(by first | exact hS.get 0 rfl | exact hS.get 1 rfl | exact hS.get 2 rfl | exact hS.get 3 rfl | exact hS.get 4 rfl | exact hS.get 5 rfl), ?_⟩
      refine RH.q hh (Calm.sq (Calm.bk (Calm.sq Calm.body))) rfl (by kernel_rfl) (Qt.eql rfl rfl) ?_
      refine RH.q hh (Calm.sq (Calm.bk (Calm.sq Calm.body))) rfl (by kernel_rfl) (Qt.as rfl) ?_
      refine RH.done hh (by kernel_rfl) ?_
      refine RL.nil ?_
      refine RE.sqN ?_
      refine RC.ret ?_
      refine RE.bkR ?_
      refine RE.sqR ?_
      -- stops: end ret
      refine RE.retB rfl ⟨by simp [oneOf], rfl⟩ (hS.pick [1, 0, 3] (by decide) rfl)
    · skip
      have h2 : ¬ x.kind = 1 := of_decide_eq_false h2
      refine RC.seq ?_
      refine RC.region rfl ?_
      refine RL.q (Qt.eql rfl rfl) ?_
      refine RL.q (Qt.as rfl) ?_
      refine RL.nil ?_
      refine RE.sqN ?_
      -- stops: cond
      refine RC.cond rfl (fun h3 => ?_) (fun h3 => ?_)
      · skip
        have h3 : x.kind = 2 := of_decide_eq_true h3
        have e : kDo l n most x = kRem l n x.id := by rw [kDo, if_neg h, if_neg h2, if_pos h3]
        rw [e]
        refine RC.seq ?_
        -- stops: drawn
        refine RC.drawn 10 [0, 1, 2, 4, 5, 6, 3, 7, 8, 9] (fun w' => w'.heap[b5]? = some (.cells x.cells.toArray 77 (0, 0))) (by kernel_rfl) (by kernel_rfl) ((by first | exact hS.drew.get 0 rfl | exact hS.drew.get 1 rfl | exact hS.drew.get 2 rfl | exact hS.drew.get 3 rfl | exact hS.drew.get 4 rfl | exact hS.drew.get 5 rfl)) (fun hh => ?_)
        replace hS := hS.drew
        refine RH.q hh (Calm.sq (Calm.bk (Calm.sq Calm.body))) rfl (by kernel_rfl) (Qt.mv rfl) ?_
        refine RH.q hh (Calm.sq (Calm.bk (Calm.sq Calm.body))) rfl (by kernel_rfl) (Qt.fld rfl) ?_
        refine RH.q hh (Calm.sq (Calm.bk (Calm.sq Calm.body))) rfl (by kernel_rfl) (Qt.ld rfl (fun _ h => h) (by first  | rfl)) ?_
        refine RH.q hh (Calm.sq (Calm.bk (Calm.sq Calm.body))) rfl (by kernel_rfl) (Qt.mv rfl) ?_
        refine RH.q hh (Calm.sq (Calm.bk (Calm.sq Calm.body))) rfl (by kernel_rfl) (Qt.fld rfl) ?_
        refine RH.q hh (Calm.sq (Calm.bk (Calm.sq Calm.body))) rfl (by kernel_rfl) (Qt.ld rfl (fun _ h => h) (by first  | rfl)) ?_
        refine RH.e hh rfl (by kernel_rfl) (Ef.call hS (rdRemove p n most B l x.id) rfl rfl Try.call62 [1] [0, 2, 3] (by decide) rfl rfl) ?_
        rintro v50 w ⟨ps, ⟨rfl, rfl⟩, hS⟩
        refine ⟨(by first | exact hS.get 0 rfl | exact hS.get 1 rfl | exact hS.get 2 rfl | exact hS.get 3 rfl | exact hS.get 4 rfl | exact hS.get 5 rfl), ?_⟩
        refine RH.e hh rfl (by kernel_rfl) (Ef.call hS (rsRemove r n most l x.id hok.nodup) rfl rfl Try.call112 [2] [0, 1, 3] (by decide) rfl rfl) ?_
        rintro v54 w ⟨ps, ⟨rfl, rfl⟩, hS⟩
        refine ⟨(by first | exact hS.get 0 rfl | exact hS.get 1 rfl | exact hS.get 2 rfl | exact hS.get 3 rfl | exact hS.get 4 rfl | exact hS.get 5 rfl), ?_⟩
        refine RH.q hh (Calm.sq (Calm.bk (Calm.sq Calm.body))) rfl (by kernel_rfl) (Qt.eql rfl rfl) ?_
        refine RH.q hh (Calm.sq (Calm.bk (Calm.sq Calm.body))) rfl (by kernel_rfl) (Qt.as rfl) ?_
        refine RH.done hh (by kernel_rfl) ?_
        refine RL.nil ?_
        refine RE.sqN ?_
        refine RC.ret ?_
        refine RE.bkR ?_
        refine RE.sqR ?_
        -- stops: end ret
        refine RE.retB rfl ⟨by simp [oneOf], rfl⟩ (sO_mono (B := B) (B' := B + 1) (by omega) (hS.pick [1, 0, 3] (by decide) rfl))
      · skip
        have h3 : ¬ x.kind = 2 := of_decide_eq_false h3
        refine RC.seq ?_
        refine RC.region rfl ?_
        refine RL.q (Qt.eql rfl rfl) ?_
        refine RL.q (Qt.as rfl) ?_
        refine RL.nil ?_
        refine RE.sqN ?_
        -- stops: cond
        refine RC.cond rfl (fun h4 => ?_) (fun h4 => ?_)
        · skip
          have h4 : x.kind = 3 := of_decide_eq_true h4
          have e : kDo l n most x = l.tail := by rw [kDo, if_neg h, if_neg h2, if_neg h3, if_pos h4]
          rw [e]
          refine RC.seq ?_
          refine RC.region rfl ?_
          refine RL.q (Qt.mv rfl) ?_
          -- stops: op call
          refine RL.e (Ef.call hS (rdTake p n most B l) rfl rfl Try.call48 [1] [0, 2, 3] (by decide) rfl rfl) ?_
          rintro v60 w ⟨ps, ⟨rfl, rfl⟩, hS⟩
          refine RL.q (Qt.mv rfl) ?_
          refine RL.q (Qt.ext rfl rfl) ?_
          refine RL.q (Qt.ext rfl rfl) ?_
          refine RL.q (Qt.ext rfl rfl) ?_
          refine RL.e (Ef.alloc hS) ?_
          rintro _ w ⟨b8, rfl, hS⟩
          try simp (disch := omega) only [cells_agg'] at hS
          refine RL.q (Qt.as rfl) ?_
          first | refine RL.e0 (Ef.st hS 0 rfl rfl rfl (by rfl) (by rfl) (by first | exact Nat.le_of_ble_eq_true rfl | omega | (simp only [Array.size_map]; omega))) ?_ | refine RL.e0 (Ef.st hS 1 rfl rfl rfl (by rfl) (by rfl) (by first | exact Nat.le_of_ble_eq_true rfl | omega | (simp only [Array.size_map]; omega))) ?_ | refine RL.e0 (Ef.st hS 2 rfl rfl rfl (by rfl) (by rfl) (by first | exact Nat.le_of_ble_eq_true rfl | omega | (simp only [Array.size_map]; omega))) ?_ | refine RL.e0 (Ef.st hS 3 rfl rfl rfl (by rfl) (by rfl) (by first | exact Nat.le_of_ble_eq_true rfl | omega | (simp only [Array.size_map]; omega))) ?_ | refine RL.e0 (Ef.st hS 4 rfl rfl rfl (by rfl) (by rfl) (by first | exact Nat.le_of_ble_eq_true rfl | omega | (simp only [Array.size_map]; omega))) ?_
          intro _ w hS
          simp (disch := omega) only [List.set_cons_zero, cells_agg'] at hS
          refine RL.q (Qt.as rfl) ?_
          refine RL.nil ?_
          refine RE.sqN ?_
          refine RC.seq ?_
          refine RC.region rfl ?_
          refine RL.q (Qt.mv rfl) ?_
          -- stops: op call
          refine RL.e (Ef.call hS (rsTake r n most l) rfl rfl Try.call113 [3] [0, 1, 2, 4] (by decide) rfl rfl) ?_
          rintro v66 w ⟨ps, ⟨rfl, rfl⟩, hS⟩
          refine RL.q (Qt.mv rfl) ?_
          refine RL.q (Qt.ext rfl rfl) ?_
          refine RL.q (Qt.ext rfl rfl) ?_
          refine RL.q (Qt.ext rfl rfl) ?_
          refine RL.e (Ef.alloc hS) ?_
          rintro _ w ⟨b11, rfl, hS⟩
          try simp (disch := omega) only [cells_agg'] at hS
          refine RL.q (Qt.as rfl) ?_
          first | refine RL.e0 (Ef.st hS 0 rfl rfl rfl (by rfl) (by rfl) (by first | exact Nat.le_of_ble_eq_true rfl | omega | (simp only [Array.size_map]; omega))) ?_ | refine RL.e0 (Ef.st hS 1 rfl rfl rfl (by rfl) (by rfl) (by first | exact Nat.le_of_ble_eq_true rfl | omega | (simp only [Array.size_map]; omega))) ?_ | refine RL.e0 (Ef.st hS 2 rfl rfl rfl (by rfl) (by rfl) (by first | exact Nat.le_of_ble_eq_true rfl | omega | (simp only [Array.size_map]; omega))) ?_ | refine RL.e0 (Ef.st hS 3 rfl rfl rfl (by rfl) (by rfl) (by first | exact Nat.le_of_ble_eq_true rfl | omega | (simp only [Array.size_map]; omega))) ?_ | refine RL.e0 (Ef.st hS 4 rfl rfl rfl (by rfl) (by rfl) (by first | exact Nat.le_of_ble_eq_true rfl | omega | (simp only [Array.size_map]; omega))) ?_ | refine RL.e0 (Ef.st hS 5 rfl rfl rfl (by rfl) (by rfl) (by first | exact Nat.le_of_ble_eq_true rfl | omega | (simp only [Array.size_map]; omega))) ?_
          intro _ w hS
          simp (disch := omega) only [List.set_cons_zero, cells_agg'] at hS
          refine RL.q (Qt.as rfl) ?_
          refine RL.nil ?_
          refine RE.sqN ?_
          refine RC.seq ?_
          refine RC.region rfl ?_
          refine RL.q (Qt.mv rfl) ?_
          refine RL.q (Qt.mv rfl) ?_
          refine RL.q (Qt.eql rfl rfl) ?_
          refine RL.q (Qt.mv rfl) ?_
          refine RLG.start 73 true rfl ?_
          refine RLG.q rfl rfl rfl (fun hg => by (try simp only [decide_eq_true_eq] at hg); exact Qt.ldA rfl (by first | exact hS.at 0 rfl | exact hS.at 1 rfl | exact hS.at 2 rfl | exact hS.at 3 rfl | exact hS.at 4 rfl | exact hS.at 5 rfl) (by first | exact hkx | exact hkw _ | rfl) (by first | exact Nat.le_of_ble_eq_true rfl | omega | (simp only [Array.size_map]; omega))) ?_
          refine RLG.q rfl rfl rfl (fun hg => by (try simp only [decide_eq_true_eq] at hg); exact Qt.ldA rfl (by first | exact hS.at 0 rfl | exact hS.at 1 rfl | exact hS.at 2 rfl | exact hS.at 3 rfl | exact hS.at 4 rfl | exact hS.at 5 rfl) (by first | exact hkx | exact hkw _ | rfl) (by first | exact Nat.le_of_ble_eq_true rfl | omega | (simp only [Array.size_map]; omega))) ?_
          refine RLG.q rfl rfl rfl (fun hg => by (try simp only [decide_eq_true_eq] at hg); exact Qt.eqlT rfl rfl (keyEq (kTopK l) (kTopK l))) ?_
          refine RLG.and rfl rfl ?_
          refine RL.q (Qt.mv rfl) ?_
          refine RLG.start 78 true rfl ?_
          refine RLG.q rfl rfl rfl (fun _ => Qt.mv rfl) ?_
          refine RLG.q rfl rfl rfl (fun _ => Qt.mv rfl) ?_
          refine RLG.q rfl rfl rfl (fun hg => by (try simp only [decide_eq_true_eq, Bool.and_eq_true] at hg); exact Qt.eqlB rfl rfl) ?_
          refine RLG.and rfl rfl ?_
          refine RL.q (Qt.as rfl) ?_
          refine RL.nil ?_
          refine RE.sqN ?_
          refine RC.ret ?_
          refine RE.bkR ?_
          refine RE.sqR ?_
          -- stops: end ret
          refine RE.retB rfl ⟨by simp [oneOf], rfl⟩ (sO_mono (B := B) (B' := B + 1) (by omega) (hS.pick [3, 1, 5] (by decide) rfl))
        · refine RC.skip ?_
          refine RE.bkN ?_
          refine RE.sqN ?_
          refine RC.seq ?_
          refine RC.region rfl ?_
          refine RL.q (Qt.as rfl) ?_
          refine RL.nil ?_
          refine RE.sqN ?_
          refine RC.ret ?_
          -- stops: end ret
          have h4 : ¬ x.kind = 3 := of_decide_eq_false h4
          have e : kDo l n most x = l := by rw [kDo, if_neg h, if_neg h2, if_neg h3, if_neg h4]
          rw [e]
          exact RE.retB rfl ⟨rfl, rfl⟩ (sO_mono (B := B) (B' := B + 1) (by omega) (hS.pick [1, 2, 3] (by decide) rfl))

theorem kDo_len {l : List KItem} {n : Nat} {most : Int} (hok : KOk n l) (hm : (l.length : Int) ≤ most) (x : RDeed) : ((kDo l n most x).length : Int) ≤ most := by
  unfold kDo
  split
  · unfold kPut; split
    · rename_i h
      unfold kPutErr at h
      split at h
      · split at h
        · cases h
        · rw [kput_len]; omega
      · exact absurd h (by assumption)
    · exact hm
  · split
    · unfold kChg; split
      · rename_i h
        obtain ⟨_, _, hx⟩ := kErr_is1 h.1
        have := kout_len hok.nodup hx
        rw [kput_len]; omega
      · exact hm
    · split
      · unfold kRem; split
        · have : (kout l x.id).length ≤ l.length := List.length_filter_le _ _
          omega
        · exact hm
      · split
        · rw [List.length_tail]; omega
        · exact hm

abbrev RDeedsAt (v : Value) (ds : List RDeed) (F0 : Frag) : Prop := RowsAt RDeed.cells 5 v ds F0

set_option maxHeartbeats 2000000 in
theorem rdPlay (n : Int) (hn : 0 ≤ n ∧ n ≤ 255) (v : Value) (ds : List RDeed) (F0 : Frag) (hR : RDeedsAt v ds F0) (hd : ∀ x ∈ ds, x.ok) : Ct Try.prog 44 #[.int .u8 n, v] [pin F0] (fun v' ps => ∃ b r l, v' = .tuple #[.pointer (some ⟨b, 0, none⟩), r, .bool true] ∧ (l.length : Int) ≤ n % 10 + 1 ∧ ps = [sO (.pointer (some ⟨b, 0, none⟩)) 10 (n % 10 + 1) 80 l, rsO r 10 (n % 10 + 1) l, pin F0]) := by
  obtain ⟨pa, cap, rfl, hR⟩ := hR
  refine Ct.enter Try.func44 rfl (Nat.le_of_ble_eq_true rfl) ?_
  intro oo w R hS
  change RC _ _ _ _ _ _ [(0, _), (1, _)] _
  refine RC.seq ?_
  refine RC.region rfl ?_
  refine RL.q (Qt.as rfl) ?_
  refine RL.q (Qt.as rfl) ?_
  refine RL.q (Qt.as rfl) ?_
  refine RL.nil ?_
  refine RE.sqN ?_
  refine RC.seq ?_
  refine RC.region rfl ?_
  refine RL.q (Qt.mv rfl) ?_
  refine RL.q ((by first | exact Qt.cvtI rfl (by dsimp only [inK]; omega) | exact Qt.cvt rfl)) ?_
  refine RL.q ((by first | exact Qt.remI rfl rfl (by omega) | exact Qt.rem rfl rfl (by first | decide | omega))) ?_
  refine RL.q ((by first | exact Qt.addI rfl rfl (by dsimp only [inK]; omega) | exact Qt.add rfl rfl)) ?_
  -- stops: op call
  refine RL.e (Ef.call hS (rdNew 10 (n % 10 + 1) (by omega) (by omega) (by omega) (by omega)) rfl rfl Try.call67 [] [0, 1] (by decide) rfl rfl) ?_
  rintro v14 w ⟨ps, ⟨⟨bq, rfl⟩, rfl⟩, hS⟩
  refine RL.q (Qt.mv rfl) ?_
  refine RL.q ((by first | exact Qt.cvtI rfl (by dsimp only [inK]; omega) | exact Qt.cvt rfl)) ?_
  refine RL.q ((by first | exact Qt.remI rfl rfl (by omega) | exact Qt.rem rfl rfl (by first | decide | omega))) ?_
  refine RL.q ((by first | exact Qt.addI rfl rfl (by dsimp only [inK]; omega) | exact Qt.add rfl rfl)) ?_
  -- stops: op call
  refine RL.e (Ef.call hS (rsNew 10 (n % 10 + 1) (by omega) (by omega) (by omega) (by omega)) rfl rfl Try.call94 [] [0, 1, 2] (by decide) rfl rfl) ?_
  rintro v19 w ⟨ps, rfl, hS⟩
  refine RL.q (Qt.as rfl) ?_
  refine RL.q (Qt.as rfl) ?_
  refine RL.nil ?_
  refine RE.sqN ?_
  refine RC.seq ?_
  refine RC.seq ?_
  refine RC.region rfl ?_
  refine RL.q (Qt.as rfl) ?_
  refine RL.nil ?_
  refine RE.sqN ?_
  refine RC.block ?_
  -- stops: loop
  refine RC.loop (γ := Nat × List KItem) (fun g E w' => E = [(9, .int .i64 g.1), (7, .pointer (some ⟨bq, 0, none⟩)), (8, v19), (1, .slice pa ds.length cap)] ∧ Sat oo w' [sO (.pointer (some ⟨bq, 0, none⟩)) 10 (n % 10 + 1) g.1 g.2, rsO v19 10 (n % 10 + 1) g.2, pin F0, R] ∧ g.1 ≤ ds.length ∧ g.1 ≤ 80 ∧ (g.2.length : Int) ≤ n % 10 + 1) (fun g => ds.length - g.1) (0, []) _ (by (repeat (first | exact Sub.nil | refine Sub.cons rfl ?_))) ⟨rfl, hS.pick [1, 0, 2, 3] (by decide) rfl, by simp, by simp, by show ((0 : Nat) : Int) ≤ _; omega⟩ ?_
  clear hS
  rintro ⟨k, l⟩ E w ⟨rfl, hS, hk, hk2, hlm⟩
  dsimp only at hk hk2 hS hlm
  refine RC.seq ?_
  refine RC.seq ?_
  refine RC.region rfl ?_
  refine RL.q (Qt.mv rfl) ?_
  refine RL.q (Qt.mv rfl) ?_
  refine RL.q (Qt.lenS rfl) ?_
  refine RL.q (Qt.lss rfl rfl) ?_
  refine RL.q (Qt.mv rfl) ?_
  refine RLG.start 24 true rfl ?_
  refine RLG.q rfl rfl rfl (fun _ => Qt.mv rfl) ?_
  refine RLG.q rfl rfl rfl (fun hg => by (try simp only [decide_eq_true_eq] at hg); exact Qt.lss rfl rfl) ?_
  refine RLG.and rfl rfl ?_
  refine RL.nil ?_
  refine RE.sqN ?_
  -- stops: cond
  refine RC.cond rfl (fun h => ?_) (fun h => ?_)
  · skip
    have h : k < ds.length ∧ k < 80 := by
      simp only [Bool.and_eq_true, decide_eq_true_eq] at h
      omega
    obtain ⟨b, off, c, T, fz, rfl, hmem, hle, hrow⟩ := hR (by omega)
    have hrow := hrow k h.1
    have hok := (sO_ok hS).1
    refine RC.skip ?_
    refine RE.sqN ?_
    refine RC.seq ?_
    refine RC.block ?_
    refine RC.seq ?_
    refine RC.region rfl ?_
    refine RL.q (Qt.mv rfl) ?_
    refine RL.q (Qt.mv rfl) ?_
    refine RL.q (Qt.mv rfl) ?_
    refine RL.q (Qt.mv rfl) ?_
    refine RL.q (Qt.ixS rfl rfl (by first | assumption | omega | (dsimp only; omega)) (by first | assumption | omega | (dsimp only; omega))) ?_
    refine RL.q (Qt.ldA rfl (hS.atPin 2 rfl hmem) (by first | exact hrow | rfl) (by first | exact Nat.le_of_ble_eq_true rfl | omega | (simp only [Array.size_map]; omega))) ?_
    -- stops: op call
    refine RL.e (Ef.call hS (rdDo _ v19 _ _ k l ds[k] (hd _ (List.getElem_mem h.1)) (by omega)) rfl rfl Try.call65 [0, 1] [2, 3] (by decide) rfl rfl) ?_
    rintro v36 w ⟨ps, ⟨rfl, rfl⟩, hS⟩
    refine RL.q (Qt.not rfl) ?_
    refine RL.nil ?_
    refine RE.sqN ?_
    -- stops: cond
    refine RC.condF rfl (rfl) ?_
    refine RC.skip ?_
    refine RE.bkN ?_
    refine RE.sqN ?_
    refine RC.region rfl ?_
    refine RL.q (Qt.mv rfl) ?_
    refine RL.q ((by first | exact Qt.addI rfl rfl (by dsimp only [inK]; omega) | exact Qt.add rfl rfl)) ?_
    refine RL.q (Qt.as rfl) ?_
    refine RL.nil ?_
    -- stops: next
    apply RE.lpN ((k + 1, kDo l 10 (n % 10 + 1) ds[k]))
    case hI => exact ⟨rfl, hS, h.1, h.2, kDo_len hok hlm _⟩
    case hs => (repeat (first | exact Sub.nil | refine Sub.cons rfl ?_))
    case hm =>
      show ds.length - (k + 1) < ds.length - k
      omega
  · refine RC.exit ?_
    refine RE.sqX ?_
    refine RE.lpX ?_
    refine RE.bkX ?_
    refine RE.sqN ?_
    refine RC.seq ?_
    refine RC.region rfl ?_
    refine RL.q (Qt.mv rfl) ?_
    refine RL.q (Qt.mv rfl) ?_
    refine RL.q (Qt.as rfl) ?_
    refine RL.q (Qt.as rfl) ?_
    refine RL.q (Qt.as rfl) ?_
    refine RL.nil ?_
    refine RE.sqN ?_
    refine RC.ret ?_
    -- stops: end ret
    exact RE.retB rfl ⟨bq, v19, l, rfl, hlm, rfl⟩ (sO_mono (by omega) hS)

set_option maxHeartbeats 4000000 in
theorem rdSame (p r : Value) (n : Nat) (most B : Int) (l : List KItem) (id : Int) : Ct Try.prog 46 #[p, r, .int .i64 id] [sO p n most B l, rsO r n most l] (fun v ps => v = .bool true ∧ ps = [sO p n most B l, rsO r n most l]) := by
  refine Ct.enter Try.func46 rfl (Nat.le_of_ble_eq_true rfl) ?_
  intro oo w R hS
  change RC _ _ _ _ _ _ [(0, _), (1, _), (2, _)] _
  obtain ⟨hok, hn⟩ := sO_ok hS
  have hlen := hok.lenLe
  have hkw : ∀ k : KKey, (wr #[.bool false, .int .u64 0, .int .u8 0] 0 k.cells).extract 0 (0 + 3) = k.cells.toArray := fun k => rfl
  refine RC.seq ?_
  refine RC.region rfl ?_
  refine RL.q (Qt.as rfl) ?_
  refine RL.nil ?_
  refine RE.sqN ?_
  refine RC.seq ?_
  refine RC.region rfl ?_
  refine RL.q (Qt.mv rfl) ?_
  -- stops: op call
  refine RL.e (Ef.call hS (rdTop p n most B l) rfl rfl Try.call66 [0] [1, 2] (by decide) rfl rfl) ?_
  rintro v19 w ⟨ps, ⟨rfl, rfl⟩, hS⟩
  refine RL.q (Qt.mv rfl) ?_
  refine RL.q (Qt.ext rfl rfl) ?_
  refine RL.q (Qt.ext rfl rfl) ?_
  refine RL.q (Qt.ext rfl rfl) ?_
  refine RL.e (Ef.alloc hS) ?_
  rintro _ w ⟨b8, rfl, hS⟩
  try simp (disch := omega) only [cells_agg'] at hS
  refine RL.q (Qt.as rfl) ?_
  first | refine RL.e0 (Ef.st hS 0 rfl rfl rfl (by rfl) (by rfl) (by first | exact Nat.le_of_ble_eq_true rfl | omega | (simp only [Array.size_map]; omega))) ?_ | refine RL.e0 (Ef.st hS 1 rfl rfl rfl (by rfl) (by rfl) (by first | exact Nat.le_of_ble_eq_true rfl | omega | (simp only [Array.size_map]; omega))) ?_ | refine RL.e0 (Ef.st hS 2 rfl rfl rfl (by rfl) (by rfl) (by first | exact Nat.le_of_ble_eq_true rfl | omega | (simp only [Array.size_map]; omega))) ?_ | refine RL.e0 (Ef.st hS 3 rfl rfl rfl (by rfl) (by rfl) (by first | exact Nat.le_of_ble_eq_true rfl | omega | (simp only [Array.size_map]; omega))) ?_
  intro _ w hS
  simp (disch := omega) only [List.set_cons_zero, cells_agg'] at hS
  refine RL.q (Qt.as rfl) ?_
  refine RL.nil ?_
  refine RE.sqN ?_
  refine RC.seq ?_
  refine RC.region rfl ?_
  refine RL.q (Qt.mv rfl) ?_
  -- stops: op call
  refine RL.e (Ef.call hS (rsTop r n most l) rfl rfl Try.call95 [2] [0, 1, 3] (by decide) rfl rfl) ?_
  rintro v25 w ⟨ps, ⟨rfl, rfl⟩, hS⟩
  refine RL.q (Qt.mv rfl) ?_
  refine RL.q (Qt.ext rfl rfl) ?_
  refine RL.q (Qt.ext rfl rfl) ?_
  refine RL.q (Qt.ext rfl rfl) ?_
  refine RL.e (Ef.alloc hS) ?_
  rintro _ w ⟨b11, rfl, hS⟩
  try simp (disch := omega) only [cells_agg'] at hS
  refine RL.q (Qt.as rfl) ?_
  first | refine RL.e0 (Ef.st hS 0 rfl rfl rfl (by rfl) (by rfl) (by first | exact Nat.le_of_ble_eq_true rfl | omega | (simp only [Array.size_map]; omega))) ?_ | refine RL.e0 (Ef.st hS 1 rfl rfl rfl (by rfl) (by rfl) (by first | exact Nat.le_of_ble_eq_true rfl | omega | (simp only [Array.size_map]; omega))) ?_ | refine RL.e0 (Ef.st hS 2 rfl rfl rfl (by rfl) (by rfl) (by first | exact Nat.le_of_ble_eq_true rfl | omega | (simp only [Array.size_map]; omega))) ?_ | refine RL.e0 (Ef.st hS 3 rfl rfl rfl (by rfl) (by rfl) (by first | exact Nat.le_of_ble_eq_true rfl | omega | (simp only [Array.size_map]; omega))) ?_ | refine RL.e0 (Ef.st hS 4 rfl rfl rfl (by rfl) (by rfl) (by first | exact Nat.le_of_ble_eq_true rfl | omega | (simp only [Array.size_map]; omega))) ?_
  intro _ w hS
  simp (disch := omega) only [List.set_cons_zero, cells_agg'] at hS
  refine RL.q (Qt.as rfl) ?_
  refine RL.nil ?_
  refine RE.sqN ?_
  refine RC.seq ?_
  refine RC.region rfl ?_
  refine RL.q (Qt.mv rfl) ?_
  refine RL.q (Qt.mv rfl) ?_
  -- stops: op call
  refine RL.e (Ef.call hS (rdKey p n most B l id) rfl rfl Try.call59 [3] [0, 1, 2, 4] (by decide) rfl rfl) ?_
  rintro v32 w ⟨ps, ⟨rfl, rfl⟩, hS⟩
  refine RL.q (Qt.mv rfl) ?_
  refine RL.q (Qt.ext rfl rfl) ?_
  refine RL.q (Qt.ext rfl rfl) ?_
  refine RL.e (Ef.alloc hS) ?_
  rintro _ w ⟨b13, rfl, hS⟩
  try simp (disch := omega) only [cells_agg'] at hS
  first | refine RL.e0 (Ef.st hS 0 rfl rfl rfl (by rfl) (by rfl) (by first | exact Nat.le_of_ble_eq_true rfl | omega | (simp only [Array.size_map]; omega))) ?_ | refine RL.e0 (Ef.st hS 1 rfl rfl rfl (by rfl) (by rfl) (by first | exact Nat.le_of_ble_eq_true rfl | omega | (simp only [Array.size_map]; omega))) ?_ | refine RL.e0 (Ef.st hS 2 rfl rfl rfl (by rfl) (by rfl) (by first | exact Nat.le_of_ble_eq_true rfl | omega | (simp only [Array.size_map]; omega))) ?_ | refine RL.e0 (Ef.st hS 3 rfl rfl rfl (by rfl) (by rfl) (by first | exact Nat.le_of_ble_eq_true rfl | omega | (simp only [Array.size_map]; omega))) ?_ | refine RL.e0 (Ef.st hS 4 rfl rfl rfl (by rfl) (by rfl) (by first | exact Nat.le_of_ble_eq_true rfl | omega | (simp only [Array.size_map]; omega))) ?_ | refine RL.e0 (Ef.st hS 5 rfl rfl rfl (by rfl) (by rfl) (by first | exact Nat.le_of_ble_eq_true rfl | omega | (simp only [Array.size_map]; omega))) ?_
  intro _ w hS
  simp (disch := omega) only [List.set_cons_zero, cells_agg'] at hS
  refine RL.q (Qt.as rfl) ?_
  refine RL.nil ?_
  refine RE.sqN ?_
  refine RC.seq ?_
  refine RC.region rfl ?_
  refine RL.q (Qt.mv rfl) ?_
  refine RL.q (Qt.mv rfl) ?_
  -- stops: op call
  refine RL.e (Ef.call hS (rsKey r n most l id hok.nodup) rfl rfl Try.call96 [3] [0, 1, 2, 4, 5] (by decide) rfl rfl) ?_
  rintro v38 w ⟨ps, ⟨rfl, rfl⟩, hS⟩
  refine RL.q (Qt.mv rfl) ?_
  refine RL.q (Qt.ext rfl rfl) ?_
  refine RL.q (Qt.ext rfl rfl) ?_
  refine RL.e (Ef.alloc hS) ?_
  rintro _ w ⟨b15, rfl, hS⟩
  try simp (disch := omega) only [cells_agg'] at hS
  first | refine RL.e0 (Ef.st hS 0 rfl rfl rfl (by rfl) (by rfl) (by first | exact Nat.le_of_ble_eq_true rfl | omega | (simp only [Array.size_map]; omega))) ?_ | refine RL.e0 (Ef.st hS 1 rfl rfl rfl (by rfl) (by rfl) (by first | exact Nat.le_of_ble_eq_true rfl | omega | (simp only [Array.size_map]; omega))) ?_ | refine RL.e0 (Ef.st hS 2 rfl rfl rfl (by rfl) (by rfl) (by first | exact Nat.le_of_ble_eq_true rfl | omega | (simp only [Array.size_map]; omega))) ?_ | refine RL.e0 (Ef.st hS 3 rfl rfl rfl (by rfl) (by rfl) (by first | exact Nat.le_of_ble_eq_true rfl | omega | (simp only [Array.size_map]; omega))) ?_ | refine RL.e0 (Ef.st hS 4 rfl rfl rfl (by rfl) (by rfl) (by first | exact Nat.le_of_ble_eq_true rfl | omega | (simp only [Array.size_map]; omega))) ?_ | refine RL.e0 (Ef.st hS 5 rfl rfl rfl (by rfl) (by rfl) (by first | exact Nat.le_of_ble_eq_true rfl | omega | (simp only [Array.size_map]; omega))) ?_ | refine RL.e0 (Ef.st hS 6 rfl rfl rfl (by rfl) (by rfl) (by first | exact Nat.le_of_ble_eq_true rfl | omega | (simp only [Array.size_map]; omega))) ?_
  intro _ w hS
  simp (disch := omega) only [List.set_cons_zero, cells_agg'] at hS
  refine RL.q (Qt.as rfl) ?_
  refine RL.nil ?_
  refine RE.sqN ?_
  refine RC.seq ?_
  refine RC.region rfl ?_
  refine RL.q (Qt.mv rfl) ?_
  refine RL.q (Qt.mv rfl) ?_
  refine RL.q (Qt.eql rfl rfl) ?_
  refine RL.q (Qt.mv rfl) ?_
  refine RLG.start 44 true rfl ?_
  refine RLG.q rfl rfl rfl (fun hg => by (try simp only [decide_eq_true_eq] at hg); exact Qt.ldA rfl (by first | exact hS.at 0 rfl | exact hS.at 1 rfl | exact hS.at 2 rfl | exact hS.at 3 rfl | exact hS.at 4 rfl | exact hS.at 5 rfl | exact hS.at 6 rfl) (by first | exact hkw _ | rfl) (by first | exact Nat.le_of_ble_eq_true rfl | omega | (simp only [Array.size_map]; omega))) ?_
  refine RLG.q rfl rfl rfl (fun hg => by (try simp only [decide_eq_true_eq] at hg); exact Qt.ldA rfl (by first | exact hS.at 0 rfl | exact hS.at 1 rfl | exact hS.at 2 rfl | exact hS.at 3 rfl | exact hS.at 4 rfl | exact hS.at 5 rfl | exact hS.at 6 rfl) (by first | exact hkw _ | rfl) (by first | exact Nat.le_of_ble_eq_true rfl | omega | (simp only [Array.size_map]; omega))) ?_
  refine RLG.q rfl rfl rfl (fun hg => by (try simp only [decide_eq_true_eq] at hg); exact Qt.eqlT rfl rfl (keyEq (kTopK l) (kTopK l))) ?_
  refine RLG.and rfl rfl ?_
  refine RL.q (Qt.mv rfl) ?_
  refine RLG.start 49 true rfl ?_
  refine RLG.q rfl rfl rfl (fun _ => Qt.mv rfl) ?_
  refine RLG.q rfl rfl rfl (fun _ => Qt.mv rfl) ?_
  refine RLG.q rfl rfl rfl (fun hg => by (try simp only [decide_eq_true_eq, Bool.and_eq_true] at hg); exact Qt.eqlB rfl rfl) ?_
  refine RLG.and rfl rfl ?_
  refine RL.q (Qt.mv rfl) ?_
  refine RLG.start 54 true rfl ?_
  refine RLG.q rfl rfl rfl (fun hg => by (try simp only [decide_eq_true_eq, Bool.and_eq_true] at hg); exact Qt.ldA rfl (by first | exact hS.at 0 rfl | exact hS.at 1 rfl | exact hS.at 2 rfl | exact hS.at 3 rfl | exact hS.at 4 rfl | exact hS.at 5 rfl | exact hS.at 6 rfl) (by first | exact hkw _ | rfl) (by first | exact Nat.le_of_ble_eq_true rfl | omega | (simp only [Array.size_map]; omega))) ?_
  refine RLG.q rfl rfl rfl (fun hg => by (try simp only [decide_eq_true_eq, Bool.and_eq_true] at hg); exact Qt.ldA rfl (by first | exact hS.at 0 rfl | exact hS.at 1 rfl | exact hS.at 2 rfl | exact hS.at 3 rfl | exact hS.at 4 rfl | exact hS.at 5 rfl | exact hS.at 6 rfl) (by first | exact hkw _ | rfl) (by first | exact Nat.le_of_ble_eq_true rfl | omega | (simp only [Array.size_map]; omega))) ?_
  refine RLG.q rfl rfl rfl (fun hg => by (try simp only [decide_eq_true_eq, Bool.and_eq_true] at hg); exact Qt.eqlT rfl rfl (keyEq (kGetK l id) (kGetK l id))) ?_
  refine RLG.and rfl rfl ?_
  refine RL.q (Qt.mv rfl) ?_
  refine RLG.start 59 true rfl ?_
  refine RLG.q rfl rfl rfl (fun _ => Qt.mv rfl) ?_
  refine RLG.q rfl rfl rfl (fun _ => Qt.mv rfl) ?_
  refine RLG.q rfl rfl rfl (fun hg => by (try simp only [decide_eq_true_eq, Bool.and_eq_true] at hg); exact Qt.eqlB rfl rfl) ?_
  refine RLG.and rfl rfl ?_
  refine RL.q (Qt.mv rfl) ?_
  -- stops: guard
  refine RL.q (Qt.mv rfl) ?_ (Runs.guard rfl rfl rfl (by simp))
  -- stops: op call
  refine RL.e (Ef.call hS (rdLen p n most B l) rfl rfl Try.call50 [3] [0, 1, 2, 4, 5, 6] (by decide) rfl rfl) ?_ (Runs.guard rfl rfl rfl (by simp))
  rintro v66 w ⟨ps, ⟨rfl, rfl⟩, hS⟩
  refine RL.q (Qt.mv rfl) ?_ (Runs.guard rfl rfl rfl (by simp))
  -- stops: op call
  refine RL.e (Ef.call hS (rsLen r n most l) rfl rfl Try.call97 [2] [0, 1, 3, 4, 5, 6] (by decide) rfl rfl) ?_ (Runs.guard rfl rfl rfl (by simp))
  rintro v68 w ⟨ps, ⟨rfl, rfl⟩, hS⟩
  refine RL.q (Qt.eql rfl rfl) ?_ (Runs.guard rfl rfl rfl (by simp))
  refine RL.q ((by first | exact Qt.pickT rfl (by assumption) rfl | exact Qt.pickF rfl (by assumption) rfl | exact Qt.pickT rfl rfl rfl | exact Qt.pickF rfl rfl rfl | exact Qt.pickT rfl (by simp) rfl)) ?_
  refine RL.q (Qt.mv rfl) ?_
  -- stops: guard
  refine RL.q (Qt.mv rfl) ?_ (Runs.guard rfl rfl rfl (by simp))
  -- stops: op call
  refine RL.e (Ef.call hS (rdList p n most B l) rfl rfl Try.call47 [1] [0, 2, 3, 4, 5, 6] (by decide) rfl rfl) ?_ (Runs.guard rfl rfl rfl (by simp))
  rintro v73 w ⟨ps, rfl, hS⟩
  refine RL.q (Qt.mv rfl) ?_ (Runs.guard rfl rfl rfl (by simp))
  -- stops: op call
  refine RL.e (Ef.call hS (rsList r n most l) rfl rfl Try.call98 [2] [0, 1, 3, 4, 5, 6, 7] (by decide) rfl rfl) ?_ (Runs.guard rfl rfl rfl (by simp))
  rintro v75 w ⟨ps, rfl, hS⟩
  -- stops: op call
  refine RL.e (Ef.call hS (rSame _ _ (kIds l) (kIds l) (by rw [kIds, List.length_map]; omega)) rfl rfl Try.call32 [2, 0] [1, 3, 4, 5, 6, 7, 8] (by decide) rfl rfl) ?_ (Runs.guard rfl rfl rfl (by simp))
  rintro v76 w ⟨ps, ⟨rfl, rfl⟩, hS⟩
  try rw [List.nil_append] at hS
  refine RL.q ((by first | exact Qt.pickT rfl (by assumption) rfl | exact Qt.pickF rfl (by assumption) rfl | exact Qt.pickT rfl rfl rfl | exact Qt.pickF rfl rfl rfl | exact Qt.pickT rfl (by simp) rfl)) ?_
  refine RL.q (Qt.as rfl) ?_
  refine RL.nil ?_
  refine RE.sqN ?_
  refine RC.ret ?_
  -- stops: end ret
  exact RE.retB rfl ⟨by simp [oneOf], rfl⟩ (hS.pick [1, 0, 6] (by decide) rfl)
end Go.Proofs

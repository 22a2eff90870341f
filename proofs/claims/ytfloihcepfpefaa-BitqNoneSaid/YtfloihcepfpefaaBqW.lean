/- The laws of layer 2: what live, do and play come to. -/
import Derived.Test.YtfloihcepfpefaaBq4
import Derived.Test.YtfloihcepfpefaaGxL
namespace Go.Proofs
open Go Go.Gx
variable {oo : World}

set_option maxHeartbeats 2000000 in
theorem bqLive : Ct Try.prog 12 #[] [] (fun v ps => v = .bool true ∧ ∃ p l, ps = [qO p 4 l]) := by
  refine Ct.enter Try.func12 rfl (Nat.le_of_ble_eq_true rfl) ?_
  intro oo w R hS
  change RC _ _ _ _ _ _ [] _
  refine RC.seq ?_
  refine RC.region rfl ?_
  refine RL.q (Qt.as rfl) ?_
  refine RL.nil ?_
  refine RE.sqN ?_
  refine RC.seq ?_
  refine RC.region rfl ?_
  -- stops: op call
  refine RL.e (Ef.call hS (bqNew 4 (by decide) (by decide)) rfl rfl Try.call27 [] [0] (by decide) rfl rfl) ?_
  rintro v8 w ⟨ps, rfl, hS⟩
  refine RL.q (Qt.as rfl) ?_
  refine RL.nil ?_
  refine RE.sqN ?_
  refine RC.seq ?_
  refine RC.region rfl ?_
  refine RL.q (Qt.mv rfl) ?_
  -- stops: op call
  refine RL.e (Ef.call hS (bqPush _ 4 [] 5 1 (by decide)) rfl rfl Try.call17 [0] [1] (by decide) rfl rfl) ?_
  rintro v10 w ⟨ps, ⟨rfl, rfl⟩, hS⟩
  refine RL.q (Qt.mv rfl) ?_
  -- stops: op call
  refine RL.e (Ef.call hS (bqPush _ 4 _ 9 2 (by decide)) rfl rfl Try.call17 [0] [1] (by decide) rfl rfl) ?_
  rintro v12 w ⟨ps, ⟨rfl, rfl⟩, hS⟩
  refine RL.q (Qt.mv rfl) ?_
  -- stops: op call
  refine RL.e (Ef.call hS (bqPush _ 4 _ 5 3 (by decide)) rfl rfl Try.call17 [0] [1] (by decide) rfl rfl) ?_
  rintro v14 w ⟨ps, ⟨rfl, rfl⟩, hS⟩
  refine RL.q (Qt.as rfl) ?_
  refine RL.q (Qt.as rfl) ?_
  refine RL.q (Qt.as rfl) ?_
  refine RL.nil ?_
  refine RE.sqN ?_
  refine RC.seq ?_
  refine RC.region rfl ?_
  refine RL.q (Qt.mv rfl) ?_
  -- stops: op call
  refine RL.e (Ef.call hS (bqPop _ 4 _) rfl rfl Try.call14 [0] [1] (by decide) rfl rfl) ?_
  rintro v17 w ⟨ps, ⟨rfl, rfl⟩, hS⟩
  refine RL.q (Qt.mv rfl) ?_
  refine RL.q (Qt.ext rfl rfl) ?_
  refine RL.q (Qt.ext rfl rfl) ?_
  refine RL.q (Qt.ext rfl rfl) ?_
  refine RL.q (Qt.as rfl) ?_
  refine RL.q (Qt.as rfl) ?_
  refine RL.q (Qt.as rfl) ?_
  refine RL.nil ?_
  refine RE.sqN ?_
  refine RC.seq ?_
  refine RC.region rfl ?_
  refine RL.q (Qt.mv rfl) ?_
  refine RL.q (Qt.eql rfl rfl) ?_
  refine RL.q (Qt.mv rfl) ?_
  refine RLG.start 23 true rfl ?_
  refine RLG.q rfl rfl rfl (fun _ => Qt.mv rfl) ?_
  refine RLG.q rfl rfl rfl (fun hg => by (try simp only [decide_eq_true_eq] at hg); exact Qt.eql rfl rfl) ?_
  refine RLG.and rfl rfl ?_
  refine RL.q (Qt.mv rfl) ?_
  refine RLG.start 27 true rfl ?_
  refine RLG.q rfl rfl rfl (fun _ => Qt.mv rfl) ?_
  refine RLG.q rfl rfl rfl (fun hg => by (try simp only [decide_eq_true_eq, Bool.and_eq_true] at hg); exact Qt.eql rfl rfl) ?_
  refine RLG.and rfl rfl ?_
  refine RL.q (Qt.mv rfl) ?_
  refine RLG.start 31 true rfl ?_
  refine RLG.q rfl rfl rfl (fun _ => Qt.mv rfl) ?_
  refine RLG.and rfl rfl ?_
  refine RL.q (Qt.mv rfl) ?_
  refine RLG.start 34 true rfl ?_
  refine RLG.q rfl rfl rfl (fun _ => Qt.mv rfl) ?_
  refine RLG.q rfl rfl rfl (fun hg => by (try simp only [decide_eq_true_eq, Bool.and_eq_true] at hg); exact Qt.eql rfl rfl) ?_
  refine RLG.and rfl rfl ?_
  refine RL.q (Qt.mv rfl) ?_
  refine RLG.start 38 true rfl ?_
  refine RLG.q rfl rfl rfl (fun _ => Qt.mv rfl) ?_
  refine RLG.q rfl rfl rfl (fun hg => by (try simp only [decide_eq_true_eq, Bool.and_eq_true] at hg); exact Qt.eql rfl rfl) ?_
  refine RLG.and rfl rfl ?_
  refine RL.q (Qt.mv rfl) ?_
  -- stops: guard
  refine RL.q (Qt.mv rfl) ?_ (Runs.guard rfl rfl rfl (rfl))
  -- stops: op call
  refine RL.e (Ef.call hS (bqLen _ 4 _) rfl rfl Try.call13 [0] [1] (by decide) rfl rfl) ?_ (Runs.guard rfl rfl rfl (rfl))
  rintro v44 w ⟨ps, ⟨rfl, rfl⟩, hS⟩
  refine RL.q (Qt.eql rfl rfl) ?_ (Runs.guard rfl rfl rfl (rfl))
  refine RL.q ((by first | exact Qt.pickT rfl (by assumption) rfl | exact Qt.pickF rfl (by assumption) rfl | exact Qt.pickT rfl rfl rfl | exact Qt.pickF rfl rfl rfl)) ?_
  refine RL.q (Qt.as rfl) ?_
  refine RL.nil ?_
  refine RE.sqN ?_
  refine RC.ret ?_
  -- stops: end ret
  exact RE.retB rfl ⟨rfl, _, _, rfl⟩ hS

structure Deed where
  kind : Int
  id : Int
  lv : Int
deriving Inhabited
def Deed.cells (x : Deed) : List Value := [.int .i64 x.kind, .int .i64 x.id, .int .u8 x.lv]
def Deed.val (x : Deed) : Value := .agg x.cells.toArray
def Deed.ok (x : Deed) : Prop := 0 ≤ x.lv ∧ x.lv ≤ 255

def topLv (l : List RItem) : Int := if rtop l < 0 then 0 else (rget l (rtop l)).lv
def topId (l : List RItem) : Int := if rtop l < 0 then 0 else (rget l (rtop l)).id
def topOk (l : List RItem) : Bool := decide (0 ≤ rtop l)
theorem rTop_eq (l : List RItem) : rTop l = .tuple #[.int .u8 (topLv l), .int .i64 (topId l), .bool (topOk l)] := by
  unfold rTop topLv topId topOk
  by_cases h : rtop l < 0
  · have h1 : ¬ 0 ≤ rtop l := by omega
    simp [h, h1]
  · have h1 : 0 ≤ rtop l := by omega
    simp [h, h1]
theorem bqTopT (p : Value) (n : Nat) (l : List RItem) : Ct Try.prog 16 #[p] [qO p n l] (fun v ps => v = .tuple #[.int .u8 (topLv l), .int .i64 (topId l), .bool (topOk l)] ∧ ps = [qO p n l]) := by
  rw [← rTop_eq]; exact bqTop p n l
theorem bqPopT (p : Value) (n : Nat) (l : List RItem) : Ct Try.prog 14 #[p] [qO p n l] (fun v ps => v = .tuple #[.int .u8 (topLv l), .int .i64 (topId l), .bool (topOk l)] ∧ ps = [qO p n (rPop l)]) := by
  rw [← rTop_eq]; exact bqPop p n l
theorem rqTopT (p : Value) (n : Nat) (l : List RItem) : Ct Try.prog 32 #[p] [refQ p n l] (fun v ps => v = .tuple #[.int .u8 (topLv l), .int .i64 (topId l), .bool (topOk l)] ∧ ps = [refQ p n l]) := by
  rw [← rTop_eq]; exact rqTop p n l
theorem rqPopT (p : Value) (n : Nat) (l : List RItem) : Ct Try.prog 39 #[p] [refQ p n l] (fun v ps => v = .tuple #[.int .u8 (topLv l), .int .i64 (topId l), .bool (topOk l)] ∧ ps = [refQ p n (rPop l)]) := by
  rw [← rTop_eq]; exact rqPop p n l

/-- What a deed leaves. -/
def rDo (l : List RItem) (n : Nat) (x : Deed) : List RItem := if x.kind = 0 then rPush l n x.lv x.id else if x.kind = 1 then rPop l else if x.kind = 2 then rRem l n x.id else l

set_option maxHeartbeats 2000000 in
theorem bqDo (p r : Value) (n : Nat) (l : List RItem) (x : Deed) (hx : x.ok) : Ct Try.prog 26 #[p, r, x.val] [qO p n l, refQ r n l] (fun v ps => v = .bool true ∧ ps = [qO p n (rDo l n x), refQ r n (rDo l n x)]) := by
  refine Ct.enter Try.func26 rfl (Nat.le_of_ble_eq_true rfl) ?_
  intro oo w R hS
  change RC _ _ _ _ _ _ [(0, _), (1, _), (2, _)] _
  have hlen : l.length < 1000000 := by
    obtain ⟨_, _, _, _, _, _, _, _, hq, _⟩ := qO_open hS
    have := hq.ri.lenLe
    have := hq.max
    omega
  refine RC.seq ?_
  refine RC.region rfl ?_
  refine RL.e (Ef.box hS rfl) ?_
  rintro _ w ⟨b5, rfl, hS⟩
  try simp (disch := omega) only [List.set_cons_zero, List.set_cons_succ, cells_int, cells_bool, cells_ptr, cells_slice, cells_func, cells_agg, cells_map, cells_int', cells_bool', cells_ptr', cells_slice', cells_agg', cells_map', cells_func', Nat.zero_add, wr, List.setIfInBounds_toArray] at hS
  refine RL.q (Qt.as rfl) ?_
  refine RL.nil ?_
  refine RE.sqN ?_
  refine RC.seq ?_
  refine RC.seq ?_
  refine RC.region rfl ?_
  refine RL.q (Qt.fld rfl) ?_
  refine RL.q (Qt.ld rfl (by first | exact hS.at 0 rfl | exact hS.at 1 rfl | exact hS.at 2 rfl | exact hS.at 3 rfl) (by first  | rfl)) ?_
  refine RL.nil ?_
  refine RE.sqN ?_
  refine RC.block ?_
  refine RC.seq ?_
  refine RC.region rfl ?_
  refine RL.q (Qt.eql rfl rfl) ?_
  refine RL.q (Qt.as rfl) ?_
  refine RL.nil ?_
  refine RE.sqN ?_
  -- stops: cond
  refine RC.cond rfl (fun h => ?_) (fun h => ?_)
  · skip
    have h : x.kind = 0 := of_decide_eq_true h
    have e : rDo l n x = rPush l n x.lv x.id := by rw [rDo, if_pos h]
    rw [e]
    refine RC.seq ?_
    -- stops: drawn
    refine RC.drawn 11 [0, 1, 2, 3, 4, 6, 7, 8, 9, 10, 5] (fun w' => w'.heap[b5]? = some (.cells x.cells.toArray 37 (0, 0))) (by kernel_rfl) (by kernel_rfl) (hS.drew.get 0 rfl) (fun hh => ?_)
    replace hS := hS.drew
    refine RH.q hh (Calm.sq (Calm.bk (Calm.sq Calm.body))) rfl (by kernel_rfl) (Qt.mv rfl) ?_
    refine RH.q hh (Calm.sq (Calm.bk (Calm.sq Calm.body))) rfl (by kernel_rfl) (Qt.fld rfl) ?_
    refine RH.q hh (Calm.sq (Calm.bk (Calm.sq Calm.body))) rfl (by kernel_rfl) (Qt.ld rfl (fun _ h => h) (by first  | rfl)) ?_
    refine RH.q hh (Calm.sq (Calm.bk (Calm.sq Calm.body))) rfl (by kernel_rfl) (Qt.fld rfl) ?_
    refine RH.q hh (Calm.sq (Calm.bk (Calm.sq Calm.body))) rfl (by kernel_rfl) (Qt.ld rfl (fun _ h => h) (by first  | rfl)) ?_
    refine RH.q hh (Calm.sq (Calm.bk (Calm.sq Calm.body))) rfl (by kernel_rfl) (Qt.mv rfl) ?_
    refine RH.q hh (Calm.sq (Calm.bk (Calm.sq Calm.body))) rfl (by kernel_rfl) (Qt.fld rfl) ?_
    refine RH.q hh (Calm.sq (Calm.bk (Calm.sq Calm.body))) rfl (by kernel_rfl) (Qt.ld rfl (fun _ h => h) (by first  | rfl)) ?_
    refine RH.q hh (Calm.sq (Calm.bk (Calm.sq Calm.body))) rfl (by kernel_rfl) (Qt.fld rfl) ?_
    refine RH.q hh (Calm.sq (Calm.bk (Calm.sq Calm.body))) rfl (by kernel_rfl) (Qt.ld rfl (fun _ h => h) (by first  | rfl)) ?_
    refine RH.e hh rfl (by kernel_rfl) (Ef.call hS (bqPush p n l x.lv x.id hx) rfl rfl Try.call17 [1] [0, 2, 3] (by decide) rfl rfl) ?_
    rintro v22 w ⟨ps, ⟨rfl, rfl⟩, hS⟩
    refine ⟨hS.get 1 rfl, ?_⟩
    refine RH.done hh (by kernel_rfl) ?_
    -- stops: op call
    refine RL.e (Ef.call hS (rqPush r n l x.lv x.id hlen) rfl rfl Try.call38 [2] [0, 1, 3] (by decide) rfl rfl) ?_
    rintro v28 w ⟨ps, ⟨rfl, rfl⟩, hS⟩
    refine RL.q (Qt.eql rfl rfl) ?_
    refine RL.q (Qt.as rfl) ?_
    refine RL.nil ?_
    refine RE.sqN ?_
    refine RC.ret ?_
    refine RE.bkR ?_
    refine RE.sqR ?_
    -- stops: end ret
    refine RE.retB rfl ⟨by simp [oneOf], rfl⟩ (hS.pick [1, 0, 3] (by decide) rfl)
  · skip
    have h : ¬ x.kind = 0 := of_decide_eq_false h
    refine RC.seq ?_
    refine RC.region rfl ?_
    refine RL.q (Qt.eql rfl rfl) ?_
    refine RL.q (Qt.as rfl) ?_
    refine RL.nil ?_
    refine RE.sqN ?_
    -- stops: cond
    refine RC.cond rfl (fun h2 => ?_) (fun h2 => ?_)
    · skip
      have h2 : x.kind = 1 := of_decide_eq_true h2
      have e : rDo l n x = rPop l := by rw [rDo, if_neg h, if_pos h2]
      rw [e]
      refine RC.seq ?_
      refine RC.region rfl ?_
      refine RL.q (Qt.mv rfl) ?_
      -- stops: op call
      refine RL.e (Ef.call hS (bqPopT _ n _) rfl rfl Try.call14 [1] [0, 2, 3] (by decide) rfl rfl) ?_
      rintro v34 w ⟨ps, ⟨rfl, rfl⟩, hS⟩
      refine RL.q (Qt.mv rfl) ?_
      refine RL.q (Qt.ext rfl rfl) ?_
      refine RL.q (Qt.ext rfl rfl) ?_
      refine RL.q (Qt.ext rfl rfl) ?_
      refine RL.q (Qt.as rfl) ?_
      refine RL.q (Qt.as rfl) ?_
      refine RL.q (Qt.as rfl) ?_
      refine RL.nil ?_
      refine RE.sqN ?_
      refine RC.seq ?_
      refine RC.region rfl ?_
      refine RL.q (Qt.mv rfl) ?_
      -- stops: op call
      refine RL.e (Ef.call hS (rqPopT _ n _) rfl rfl Try.call39 [2] [0, 1, 3] (by decide) rfl rfl) ?_
      rintro v40 w ⟨ps, ⟨rfl, rfl⟩, hS⟩
      refine RL.q (Qt.mv rfl) ?_
      refine RL.q (Qt.ext rfl rfl) ?_
      refine RL.q (Qt.ext rfl rfl) ?_
      refine RL.q (Qt.ext rfl rfl) ?_
      refine RL.q (Qt.as rfl) ?_
      refine RL.q (Qt.as rfl) ?_
      refine RL.q (Qt.as rfl) ?_
      refine RL.nil ?_
      refine RE.sqN ?_
      refine RC.seq ?_
      refine RC.region rfl ?_
      refine RL.q (Qt.mv rfl) ?_
      refine RL.q (Qt.mv rfl) ?_
      refine RL.q (Qt.eql rfl rfl) ?_
      refine RL.q (Qt.mv rfl) ?_
      refine RLG.start 47 true rfl ?_
      refine RLG.q rfl rfl rfl (fun _ => Qt.mv rfl) ?_
      refine RLG.q rfl rfl rfl (fun _ => Qt.mv rfl) ?_
      refine RLG.q rfl rfl rfl (fun hg => by (try simp only [decide_eq_true_eq] at hg); exact Qt.eql rfl rfl) ?_
      refine RLG.and rfl rfl ?_
      refine RL.q (Qt.mv rfl) ?_
      refine RLG.start 52 true rfl ?_
      refine RLG.q rfl rfl rfl (fun _ => Qt.mv rfl) ?_
      refine RLG.q rfl rfl rfl (fun _ => Qt.mv rfl) ?_
      refine RLG.q rfl rfl rfl (fun hg => by (try simp only [decide_eq_true_eq, Bool.and_eq_true] at hg); exact Qt.eqlB rfl rfl) ?_
      refine RLG.and rfl rfl ?_
      refine RL.q (Qt.as rfl) ?_
      refine RL.nil ?_
      refine RE.sqN ?_
      refine RC.ret ?_
      refine RE.bkR ?_
      refine RE.sqR ?_
      -- stops: end ret
      refine RE.retB rfl ⟨by simp [oneOf], rfl⟩ (hS.pick [1, 0, 3] (by decide) rfl)
    · skip
      have h2 : ¬ x.kind = 1 := of_decide_eq_false h2
      refine RC.seq ?_
      refine RC.region rfl ?_
      refine RL.q (Qt.eql rfl rfl) ?_
      refine RL.q (Qt.as rfl) ?_
      refine RL.nil ?_
      refine RE.sqN ?_
      -- stops: cond
      refine RC.cond rfl (fun h3 => ?_) (fun h3 => ?_)
      · skip
        have h3 : x.kind = 2 := of_decide_eq_true h3
        have e : rDo l n x = rRem l n x.id := by rw [rDo, if_neg h, if_neg h2, if_pos h3]
        rw [e]
        refine RC.seq ?_
        -- stops: drawn
        refine RC.drawn 7 [0, 1, 2, 4, 5, 6, 3] (fun w' => w'.heap[b5]? = some (.cells x.cells.toArray 37 (0, 0))) (by kernel_rfl) (by kernel_rfl) (hS.drew.get 0 rfl) (fun hh => ?_)
        replace hS := hS.drew
        refine RH.q hh (Calm.sq (Calm.bk (Calm.sq Calm.body))) rfl (by kernel_rfl) (Qt.mv rfl) ?_
        refine RH.q hh (Calm.sq (Calm.bk (Calm.sq Calm.body))) rfl (by kernel_rfl) (Qt.fld rfl) ?_
        refine RH.q hh (Calm.sq (Calm.bk (Calm.sq Calm.body))) rfl (by kernel_rfl) (Qt.ld rfl (fun _ h => h) (by first  | rfl)) ?_
        refine RH.q hh (Calm.sq (Calm.bk (Calm.sq Calm.body))) rfl (by kernel_rfl) (Qt.mv rfl) ?_
        refine RH.q hh (Calm.sq (Calm.bk (Calm.sq Calm.body))) rfl (by kernel_rfl) (Qt.fld rfl) ?_
        refine RH.q hh (Calm.sq (Calm.bk (Calm.sq Calm.body))) rfl (by kernel_rfl) (Qt.ld rfl (fun _ h => h) (by first  | rfl)) ?_
        refine RH.e hh rfl (by kernel_rfl) (Ef.call hS (bqRemove p n l x.id) rfl rfl Try.call22 [1] [0, 2, 3] (by decide) rfl rfl) ?_
        rintro v62 w ⟨ps, ⟨rfl, rfl⟩, hS⟩
        refine ⟨hS.get 1 rfl, ?_⟩
        refine RH.done hh (by kernel_rfl) ?_
        -- stops: op call
        refine RL.e (Ef.call hS (rqRemove r n l x.id) rfl rfl Try.call40 [2] [0, 1, 3] (by decide) rfl rfl) ?_
        rintro v66 w ⟨ps, ⟨rfl, rfl⟩, hS⟩
        refine RL.q (Qt.eql rfl rfl) ?_
        refine RL.q (Qt.as rfl) ?_
        refine RL.nil ?_
        refine RE.sqN ?_
        refine RC.ret ?_
        refine RE.bkR ?_
        refine RE.sqR ?_
        -- stops: end ret
        refine RE.retB rfl ⟨by simp [oneOf], rfl⟩ (hS.pick [1, 0, 3] (by decide) rfl)
      · refine RC.skip ?_
        refine RE.bkN ?_
        refine RE.sqN ?_
        refine RC.seq ?_
        refine RC.region rfl ?_
        refine RL.q (Qt.as rfl) ?_
        refine RL.nil ?_
        refine RE.sqN ?_
        refine RC.ret ?_
        -- stops: end ret
        have h3 : ¬ x.kind = 2 := of_decide_eq_false h3
        have e : rDo l n x = l := by rw [rDo, if_neg h, if_neg h2, if_neg h3]
        rw [e]
        exact RE.retB rfl ⟨rfl, rfl⟩ (hS.pick [1, 2, 3] (by decide) rfl)

/-- A slice of deeds that came in: the block that it lies in. -/
def DeedsAt (v : Value) (ds : List Deed) (F0 : Frag) : Prop := ∃ pa cap, v = .slice pa ds.length cap ∧ (0 < ds.length → ∃ b off c T fz, pa = some ⟨b, off, none⟩ ∧ (b, .cells c T fz) ∈ F0 ∧ off + ds.length * 3 ≤ c.size ∧ ∀ (i : Nat) (hi : i < ds.length), c.extract (off + i * 3) (off + i * 3 + 3) = (ds[i]).cells.toArray)

set_option maxHeartbeats 2000000 in
theorem bqPlay (n : Int) (hn : 0 ≤ n ∧ n ≤ 255) (v : Value) (ds : List Deed) (F0 : Frag) (hR : DeedsAt v ds F0) (hd : ∀ x ∈ ds, x.ok) : Ct Try.prog 11 #[.int .u8 n, v] [pin F0] (fun v' ps => ∃ p r l, v' = .tuple #[p, r, .bool true] ∧ ps = [qO p (n % 12 + 1).toNat l, refQ r (n % 12 + 1).toNat l, pin F0]) := by
  obtain ⟨pa, cap, rfl, hR⟩ := hR
  refine Ct.enter Try.func11 rfl (Nat.le_of_ble_eq_true rfl) ?_
  intro oo w R hS
  change RC _ _ _ _ _ _ [(0, _), (1, _)] _
  refine RC.seq ?_
  refine RC.region rfl ?_
  refine RL.q (Qt.as rfl) ?_
  refine RL.q (Qt.as rfl) ?_
  refine RL.q (Qt.as rfl) ?_
  refine RL.nil ?_
  refine RE.sqN ?_
  refine RC.seq ?_
  refine RC.region rfl ?_
  refine RL.q (Qt.mv rfl) ?_
  refine RL.q ((by first | exact Qt.cvtI rfl (by dsimp only [inK]; omega) | exact Qt.cvt rfl)) ?_
  refine RL.q ((by first | exact Qt.remI rfl rfl (by omega) | exact Qt.rem rfl rfl (by first | decide | omega))) ?_
  refine RL.q ((by first | exact Qt.addI rfl rfl (by dsimp only [inK]; omega) | exact Qt.add rfl rfl)) ?_
  -- stops: op call
  refine RL.e (Ef.call hS (bqNew (n % 12 + 1) (by omega) (by omega)) rfl rfl Try.call27 [] [0, 1] (by decide) rfl rfl) ?_
  rintro v14 w ⟨ps, rfl, hS⟩
  refine RL.q (Qt.mv rfl) ?_
  refine RL.q ((by first | exact Qt.cvtI rfl (by dsimp only [inK]; omega) | exact Qt.cvt rfl)) ?_
  refine RL.q ((by first | exact Qt.remI rfl rfl (by omega) | exact Qt.rem rfl rfl (by first | decide | omega))) ?_
  refine RL.q ((by first | exact Qt.addI rfl rfl (by dsimp only [inK]; omega) | exact Qt.add rfl rfl)) ?_
  -- stops: op call
  refine RL.e (Ef.call hS (rqNew (n % 12 + 1) (by omega) (by omega)) rfl rfl Try.call28 [] [0, 1, 2] (by decide) rfl rfl) ?_
  rintro v19 w ⟨ps, rfl, hS⟩
  refine RL.q (Qt.as rfl) ?_
  refine RL.q (Qt.as rfl) ?_
  refine RL.nil ?_
  refine RE.sqN ?_
  refine RC.seq ?_
  refine RC.seq ?_
  refine RC.region rfl ?_
  refine RL.q (Qt.as rfl) ?_
  refine RL.nil ?_
  refine RE.sqN ?_
  refine RC.block ?_
  -- stops: loop
  refine RC.loop (γ := Nat × List RItem) (fun g E w' => E = [(9, .int .i64 g.1), (7, v14), (8, v19), (1, .slice pa ds.length cap)] ∧ Sat oo w' [qO v14 (n % 12 + 1).toNat g.2, refQ v19 (n % 12 + 1).toNat g.2, pin F0, R] ∧ g.1 ≤ ds.length ∧ g.1 ≤ 100) (fun g => ds.length - g.1) (0, []) _ (by (repeat (first | exact Sub.nil | refine Sub.cons rfl ?_))) ⟨rfl, hS.pick [1, 0, 2, 3] (by decide) rfl, by simp, by simp⟩ ?_
  clear hS
  rintro ⟨k, l⟩ E w ⟨rfl, hS, hk, hk2⟩
  dsimp only at hk hk2
  refine RC.seq ?_
  refine RC.seq ?_
  refine RC.region rfl ?_
  refine RL.q (Qt.mv rfl) ?_
  refine RL.q (Qt.mv rfl) ?_
  refine RL.q (Qt.lenS rfl) ?_
  refine RL.q (Qt.lss rfl rfl) ?_
  refine RL.q (Qt.mv rfl) ?_
  refine RLG.start 24 true rfl ?_
  refine RLG.q rfl rfl rfl (fun _ => Qt.mv rfl) ?_
  refine RLG.q rfl rfl rfl (fun hg => by (try simp only [decide_eq_true_eq] at hg); exact Qt.lss rfl rfl) ?_
  refine RLG.and rfl rfl ?_
  refine RL.nil ?_
  refine RE.sqN ?_
  -- stops: cond
  refine RC.cond rfl (fun h => ?_) (fun h => ?_)
  · skip
    have h : k < ds.length ∧ k < 100 := by
      simp only [Bool.and_eq_true, decide_eq_true_eq] at h
      omega
    obtain ⟨b, off, c, T, fz, rfl, hmem, hle, hrow⟩ := hR (by omega)
    have hrow := hrow k h.1
    refine RC.skip ?_
    refine RE.sqN ?_
    refine RC.seq ?_
    refine RC.block ?_
    refine RC.seq ?_
    refine RC.region rfl ?_
    refine RL.q (Qt.mv rfl) ?_
    refine RL.q (Qt.mv rfl) ?_
    refine RL.q (Qt.mv rfl) ?_
    refine RL.q (Qt.mv rfl) ?_
    refine RL.q (Qt.ixS rfl rfl (by first | assumption | omega) (by first | assumption | omega)) ?_
    refine RL.q (Qt.ldA rfl (hS.atPin 2 rfl hmem) (by first | exact hrow | rfl) (by first | exact Nat.le_of_ble_eq_true rfl | omega | (simp only [Array.size_map]; omega))) ?_
    -- stops: op call
    refine RL.e (Ef.call hS (bqDo v14 v19 _ l ds[k] (hd _ (List.getElem_mem h.1))) rfl rfl Try.call26 [0, 1] [2, 3] (by decide) rfl rfl) ?_
    rintro v36 w ⟨ps, ⟨rfl, rfl⟩, hS⟩
    refine RL.q (Qt.not rfl) ?_
    refine RL.nil ?_
    refine RE.sqN ?_
    -- stops: cond
    refine RC.condF rfl (rfl) ?_
    refine RC.skip ?_
    refine RE.bkN ?_
    refine RE.sqN ?_
    refine RC.region rfl ?_
    refine RL.q (Qt.mv rfl) ?_
    refine RL.q ((by first | exact Qt.addI rfl rfl (by dsimp only [inK]; omega) | exact Qt.add rfl rfl)) ?_
    refine RL.q (Qt.as rfl) ?_
    refine RL.nil ?_
    -- stops: next
    apply RE.lpN ((k + 1, rDo l (n % 12 + 1).toNat ds[k]))
    case hI => exact ⟨rfl, hS, h.1, h.2⟩
    case hs => (repeat (first | exact Sub.nil | refine Sub.cons rfl ?_))
    case hm =>
      show ds.length - (k + 1) < ds.length - k
      omega
  · refine RC.exit ?_
    refine RE.sqX ?_
    refine RE.lpX ?_
    refine RE.bkX ?_
    refine RE.sqN ?_
    refine RC.seq ?_
    refine RC.region rfl ?_
    refine RL.q (Qt.mv rfl) ?_
    refine RL.q (Qt.mv rfl) ?_
    refine RL.q (Qt.as rfl) ?_
    refine RL.q (Qt.as rfl) ?_
    refine RL.q (Qt.as rfl) ?_
    refine RL.nil ?_
    refine RE.sqN ?_
    refine RC.ret ?_
    -- stops: end ret
    exact RE.retB rfl ⟨v14, v19, l, rfl, rfl⟩ hS
end Go.Proofs

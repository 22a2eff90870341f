/- The laws of layer 2: both queues tell the same. -/
import Derived.Test.YtfloihcepfpefaaBqF
import Derived.Test.YtfloihcepfpefaaRq3
namespace Go.Proofs
open Go Go.Gx
variable {oo : World}

/-- The words of the flags of the levels. -/
noncomputable def maskW (l : List RItem) : Int → Int := open Classical in if h : ∃ W, MW W (lvM l) then Classical.choose h else fun _ => 0
theorem maskW_spec {l : List RItem} {W : Int → Int} (h : MW W (lvM l)) : MW (maskW l) (lvM l) := by
  unfold maskW
  rw [dif_pos ⟨W, h⟩]
  exact Classical.choose_spec (⟨W, h⟩ : ∃ W, MW W (lvM l))
theorem IsMask.eq {v : Value} {l : List RItem} (h : IsMask v l) : v = wordsV (maskW l) := by
  obtain ⟨W, rfl, hm⟩ := h
  have h2 := maskW_spec hm
  rw [wordsV, wordsV, hm.uniq h2 (by decide) (by decide), hm.uniq h2 (i := 1) (by decide) (by decide), hm.uniq h2 (i := 2) (by decide) (by decide), hm.uniq h2 (i := 3) (by decide) (by decide)]
theorem bqMaskW (p : Value) (n : Nat) (l : List RItem) : Ct Try.prog 15 #[p] [qO p n l] (fun v ps => v = wordsV (maskW l) ∧ ps = [qO p n l]) :=
  (bqMask p n l).mono fun _ _ h => ⟨h.1.eq, h.2⟩
theorem rqMaskW (p : Value) (n : Nat) (l : List RItem) (hr : ∀ y ∈ l, 0 ≤ y.lv ∧ y.lv ≤ 255) : Ct Try.prog 34 #[p] [refQ p n l] (fun v ps => v = wordsV (maskW l) ∧ ps = [refQ p n l]) :=
  (rqMask p n l hr).mono fun _ _ h => ⟨h.1.eq, h.2⟩

def levLv (l : List RItem) (id : Int) : Int := if rat l id < 0 then 0 else (rget l (rat l id)).lv
theorem rLevel_eq (l : List RItem) (id : Int) : rLevel l id = .tuple #[.int .u8 (levLv l id), .bool (decide (0 ≤ rat l id))] := by
  unfold rLevel levLv
  by_cases h : rat l id < 0
  · have h1 : ¬ 0 ≤ rat l id := by omega
    simp [h, h1]
  · have h1 : 0 ≤ rat l id := by omega
    simp [h, h1]
theorem bqLevelT (p : Value) (n : Nat) (l : List RItem) (id : Int) : Ct Try.prog 21 #[p, .int .i64 id] [qO p n l] (fun v ps => v = .tuple #[.int .u8 (levLv l id), .bool (decide (0 ≤ rat l id))] ∧ ps = [qO p n l]) := by
  rw [← rLevel_eq]; exact bqLevel p n l id
theorem rqLevelT (p : Value) (n : Nat) (l : List RItem) (id : Int) : Ct Try.prog 33 #[p, .int .i64 id] [refQ p n l] (fun v ps => v = .tuple #[.int .u8 (levLv l id), .bool (decide (0 ≤ rat l id))] ∧ ps = [refQ p n l]) := by
  rw [← rLevel_eq]; exact rqLevel p n l id

set_option maxHeartbeats 4000000 in
theorem bqSame (p r : Value) (n : Nat) (l : List RItem) (x : Deed) (hx : x.ok) : Ct Try.prog 20 #[p, r, x.val] [qO p n l, refQ r n l] (fun v ps => v = .bool true ∧ ps = [qO p n l, refQ r n l]) := by
  refine Ct.enter Try.func20 rfl (Nat.le_of_ble_eq_true rfl) ?_
  intro oo w R hS
  change RC _ _ _ _ _ _ [(0, _), (1, _), (2, _)] _
  have hfacts : l.length ≤ 1024 ∧ ∀ y ∈ l, 0 ≤ y.lv ∧ y.lv ≤ 255 := by
    obtain ⟨_, _, _, _, _, _, _, _, hq, _⟩ := qO_open hS
    have := hq.ri.lenLe
    have := hq.max
    exact ⟨by omega, fun y hy => (hq.ri.range y hy).2⟩
  obtain ⟨hlen, hrng⟩ := hfacts
  have hls := rIds_length_le l x.lv
  refine RC.seq ?_
  refine RC.region rfl ?_
  refine RL.e (Ef.box hS rfl) ?_
  rintro _ w ⟨b5, rfl, hS⟩
  try simp (disch := omega) only [List.set_cons_zero, List.set_cons_succ, cells_int, cells_bool, cells_ptr, cells_slice, cells_func, cells_agg, cells_map, cells_int', cells_bool', cells_ptr', cells_slice', cells_agg', cells_map', cells_func', Nat.zero_add, wr, List.setIfInBounds_toArray] at hS
  refine RL.q (Qt.as rfl) ?_
  refine RL.nil ?_
  refine RE.sqN ?_
  refine RC.seq ?_
  refine RC.region rfl ?_
  refine RL.q (Qt.mv rfl) ?_
  -- stops: op call
  refine RL.e (Ef.call hS (bqTopT p n l) rfl rfl Try.call16 [1] [0, 2, 3] (by decide) rfl rfl) ?_
  rintro v19 w ⟨ps, ⟨rfl, rfl⟩, hS⟩
  refine RL.q (Qt.mv rfl) ?_
  refine RL.q (Qt.ext rfl rfl) ?_
  refine RL.q (Qt.ext rfl rfl) ?_
  refine RL.q (Qt.ext rfl rfl) ?_
  refine RL.q (Qt.as rfl) ?_
  refine RL.q (Qt.as rfl) ?_
  refine RL.q (Qt.as rfl) ?_
  refine RL.nil ?_
  refine RE.sqN ?_
  refine RC.seq ?_
  refine RC.region rfl ?_
  refine RL.q (Qt.mv rfl) ?_
  -- stops: op call
  refine RL.e (Ef.call hS (rqTopT r n l) rfl rfl Try.call32 [2] [0, 1, 3] (by decide) rfl rfl) ?_
  rintro v25 w ⟨ps, ⟨rfl, rfl⟩, hS⟩
  refine RL.q (Qt.mv rfl) ?_
  refine RL.q (Qt.ext rfl rfl) ?_
  refine RL.q (Qt.ext rfl rfl) ?_
  refine RL.q (Qt.ext rfl rfl) ?_
  refine RL.q (Qt.as rfl) ?_
  refine RL.q (Qt.as rfl) ?_
  refine RL.q (Qt.as rfl) ?_
  refine RL.nil ?_
  refine RE.sqN ?_
  refine RC.seq ?_
  refine RC.region rfl ?_
  refine RL.q (Qt.mv rfl) ?_
  refine RL.q (Qt.fld rfl) ?_
  refine RL.q (Qt.ld rfl (by first | exact hS.at 0 rfl | exact hS.at 1 rfl | exact hS.at 2 rfl | exact hS.at 3 rfl) (by first  | rfl)) ?_
  -- stops: op call
  refine RL.e (Ef.call hS (bqLevelT p n l x.id) rfl rfl Try.call21 [1] [0, 2, 3] (by decide) rfl rfl) ?_
  rintro v33 w ⟨ps, ⟨rfl, rfl⟩, hS⟩
  refine RL.q (Qt.mv rfl) ?_
  refine RL.q (Qt.ext rfl rfl) ?_
  refine RL.q (Qt.ext rfl rfl) ?_
  refine RL.q (Qt.as rfl) ?_
  refine RL.q (Qt.as rfl) ?_
  refine RL.nil ?_
  refine RE.sqN ?_
  refine RC.seq ?_
  refine RC.region rfl ?_
  refine RL.q (Qt.mv rfl) ?_
  refine RL.q (Qt.fld rfl) ?_
  refine RL.q (Qt.ld rfl (by first | exact hS.at 0 rfl | exact hS.at 1 rfl | exact hS.at 2 rfl | exact hS.at 3 rfl) (by first  | rfl)) ?_
  -- stops: op call
  refine RL.e (Ef.call hS (rqLevelT r n l x.id) rfl rfl Try.call33 [1] [0, 2, 3] (by decide) rfl rfl) ?_
  rintro v40 w ⟨ps, ⟨rfl, rfl⟩, hS⟩
  refine RL.q (Qt.mv rfl) ?_
  refine RL.q (Qt.ext rfl rfl) ?_
  refine RL.q (Qt.ext rfl rfl) ?_
  refine RL.q (Qt.as rfl) ?_
  refine RL.q (Qt.as rfl) ?_
  refine RL.nil ?_
  refine RE.sqN ?_
  refine RC.seq ?_
  -- stops: drawn
  refine RC.drawn 49 [0, 1, 2, 3, 4, 5, 6, 7, 8, 9, 10, 11, 12, 13, 14, 15, 16, 17, 18, 19, 20, 21, 22, 23, 24, 26, 25, 27, 28, 29, 30, 31, 33, 32, 34, 35, 36, 37, 38, 39, 40, 42, 43, 44, 41, 45, 46, 47, 48] (fun w' => w'.heap[b5]? = some (.cells x.cells.toArray 37 (0, 0))) (by kernel_rfl) (by kernel_rfl) (by first | exact hS.drew.get 0 rfl | exact hS.drew.get 1 rfl | exact hS.drew.get 2 rfl) (fun hh => ?_)
  replace hS := hS.drew
  refine RH.q hh (Calm.sq Calm.body) rfl (by kernel_rfl) (Qt.mv rfl) ?_
  refine RH.q hh (Calm.sq Calm.body) rfl (by kernel_rfl) (Qt.mv rfl) ?_
  refine RH.q hh (Calm.sq Calm.body) rfl (by kernel_rfl) (Qt.eql rfl rfl) ?_
  refine RH.q hh (Calm.sq Calm.body) rfl (by kernel_rfl) (Qt.mv rfl) ?_
  refine RH.q hh (Calm.sq Calm.body) rfl (by kernel_rfl) (Qt.mv rfl) ?_ (Runs.guard rfl rfl rfl (by simp))
  refine RH.q hh (Calm.sq Calm.body) rfl (by kernel_rfl) (Qt.mv rfl) ?_ (Runs.guard rfl rfl rfl (by simp))
  refine RH.q hh (Calm.sq Calm.body) rfl (by kernel_rfl) (Qt.eql rfl rfl) ?_ (Runs.guard rfl rfl rfl (by simp))
  refine RH.q hh (Calm.sq Calm.body) rfl (by kernel_rfl) ((by first | exact Qt.pickT rfl (by assumption) rfl | exact Qt.pickF rfl (by assumption) rfl | exact Qt.pickT rfl rfl rfl | exact Qt.pickF rfl rfl rfl | exact Qt.pickT rfl (by simp) rfl)) ?_
  refine RH.q hh (Calm.sq Calm.body) rfl (by kernel_rfl) (Qt.mv rfl) ?_
  refine RH.q hh (Calm.sq Calm.body) rfl (by kernel_rfl) (Qt.mv rfl) ?_ (Runs.guard rfl rfl rfl (by simp))
  refine RH.q hh (Calm.sq Calm.body) rfl (by kernel_rfl) (Qt.mv rfl) ?_ (Runs.guard rfl rfl rfl (by simp))
  refine RH.q hh (Calm.sq Calm.body) rfl (by kernel_rfl) (Qt.eqlB rfl rfl) ?_ (Runs.guard rfl rfl rfl (by simp))
  refine RH.q hh (Calm.sq Calm.body) rfl (by kernel_rfl) ((by first | exact Qt.pickT rfl (by assumption) rfl | exact Qt.pickF rfl (by assumption) rfl | exact Qt.pickT rfl rfl rfl | exact Qt.pickF rfl rfl rfl | exact Qt.pickT rfl (by simp) rfl)) ?_
  refine RH.q hh (Calm.sq Calm.body) rfl (by kernel_rfl) (Qt.mv rfl) ?_
  refine RH.q hh (Calm.sq Calm.body) rfl (by kernel_rfl) (Qt.mv rfl) ?_ (Runs.guard rfl rfl rfl (by simp))
  refine RH.q hh (Calm.sq Calm.body) rfl (by kernel_rfl) (Qt.mv rfl) ?_ (Runs.guard rfl rfl rfl (by simp))
  refine RH.q hh (Calm.sq Calm.body) rfl (by kernel_rfl) (Qt.eql rfl rfl) ?_ (Runs.guard rfl rfl rfl (by simp))
  refine RH.q hh (Calm.sq Calm.body) rfl (by kernel_rfl) ((by first | exact Qt.pickT rfl (by assumption) rfl | exact Qt.pickF rfl (by assumption) rfl | exact Qt.pickT rfl rfl rfl | exact Qt.pickF rfl rfl rfl | exact Qt.pickT rfl (by simp) rfl)) ?_
  refine RH.q hh (Calm.sq Calm.body) rfl (by kernel_rfl) (Qt.mv rfl) ?_
  refine RH.q hh (Calm.sq Calm.body) rfl (by kernel_rfl) (Qt.mv rfl) ?_ (Runs.guard rfl rfl rfl (by simp))
  refine RH.q hh (Calm.sq Calm.body) rfl (by kernel_rfl) (Qt.mv rfl) ?_ (Runs.guard rfl rfl rfl (by simp))
  refine RH.q hh (Calm.sq Calm.body) rfl (by kernel_rfl) (Qt.eqlB rfl rfl) ?_ (Runs.guard rfl rfl rfl (by simp))
  refine RH.q hh (Calm.sq Calm.body) rfl (by kernel_rfl) ((by first | exact Qt.pickT rfl (by assumption) rfl | exact Qt.pickF rfl (by assumption) rfl | exact Qt.pickT rfl rfl rfl | exact Qt.pickF rfl rfl rfl | exact Qt.pickT rfl (by simp) rfl)) ?_
  refine RH.q hh (Calm.sq Calm.body) rfl (by kernel_rfl) (Qt.mv rfl) ?_
  refine RH.q hh (Calm.sq Calm.body) rfl (by kernel_rfl) (Qt.mv rfl) ?_ (Runs.guard rfl rfl rfl (by simp))
  refine RH.q hh (Calm.sq Calm.body) rfl (by kernel_rfl) (Qt.mv rfl) ?_ (Runs.guard rfl rfl rfl (by simp))
  refine RH.e hh rfl (by kernel_rfl) (Ef.call hS (bqMaskW p n l) rfl rfl Try.call15 [1] [0, 2, 3] (by decide) rfl rfl) ?_ (Runs.guard rfl rfl rfl (by simp))
  rintro v68 w ⟨ps, ⟨rfl, rfl⟩, hS⟩
  refine ⟨(by first | exact hS.get 0 rfl | exact hS.get 1 rfl | exact hS.get 2 rfl | exact hS.get 3 rfl | exact hS.get 4 rfl), ?_⟩
  refine RH.e hh rfl (by kernel_rfl) (Ef.call hS (rqMaskW r n l hrng) rfl rfl Try.call34 [1] [0, 2, 3] (by decide) rfl rfl) ?_ (Runs.guard rfl rfl rfl (by simp))
  rintro v70 w ⟨ps, ⟨rfl, rfl⟩, hS⟩
  refine ⟨(by first | exact hS.get 0 rfl | exact hS.get 1 rfl | exact hS.get 2 rfl | exact hS.get 3 rfl | exact hS.get 4 rfl), ?_⟩
  refine RH.q hh (Calm.sq Calm.body) rfl (by kernel_rfl) (Qt.eqlA rfl rfl (by rfl) (by rfl) (by rfl) (by rfl) (by kernel_rfl)) ?_ (Runs.guard rfl rfl rfl (by simp))
  refine RH.q hh (Calm.sq Calm.body) rfl (by kernel_rfl) ((by first | exact Qt.pickT rfl (by assumption) rfl | exact Qt.pickF rfl (by assumption) rfl | exact Qt.pickT rfl rfl rfl | exact Qt.pickF rfl rfl rfl | exact Qt.pickT rfl (by simp) rfl)) ?_
  refine RH.q hh (Calm.sq Calm.body) rfl (by kernel_rfl) (Qt.mv rfl) ?_
  refine RH.q hh (Calm.sq Calm.body) rfl (by kernel_rfl) (Qt.mv rfl) ?_ (Runs.guard rfl rfl rfl (by simp))
  refine RH.q hh (Calm.sq Calm.body) rfl (by kernel_rfl) (Qt.mv rfl) ?_ (Runs.guard rfl rfl rfl (by simp))
  refine RH.e hh rfl (by kernel_rfl) (Ef.call hS (bqLen p n l) rfl rfl Try.call13 [1] [0, 2, 3] (by decide) rfl rfl) ?_ (Runs.guard rfl rfl rfl (by simp))
  rintro v75 w ⟨ps, ⟨rfl, rfl⟩, hS⟩
  refine ⟨(by first | exact hS.get 0 rfl | exact hS.get 1 rfl | exact hS.get 2 rfl | exact hS.get 3 rfl | exact hS.get 4 rfl), ?_⟩
  refine RH.e hh rfl (by kernel_rfl) (Ef.call hS (rqLen r n l) rfl rfl Try.call35 [1] [0, 2, 3] (by decide) rfl rfl) ?_ (Runs.guard rfl rfl rfl (by simp))
  rintro v77 w ⟨ps, ⟨rfl, rfl⟩, hS⟩
  refine ⟨(by first | exact hS.get 0 rfl | exact hS.get 1 rfl | exact hS.get 2 rfl | exact hS.get 3 rfl | exact hS.get 4 rfl), ?_⟩
  refine RH.q hh (Calm.sq Calm.body) rfl (by kernel_rfl) (Qt.eql rfl rfl) ?_ (Runs.guard rfl rfl rfl (by simp))
  refine RH.q hh (Calm.sq Calm.body) rfl (by kernel_rfl) ((by first | exact Qt.pickT rfl (by assumption) rfl | exact Qt.pickF rfl (by assumption) rfl | exact Qt.pickT rfl rfl rfl | exact Qt.pickF rfl rfl rfl | exact Qt.pickT rfl (by simp) rfl)) ?_
  refine RH.q hh (Calm.sq Calm.body) rfl (by kernel_rfl) (Qt.mv rfl) ?_
  refine RH.q hh (Calm.sq Calm.body) rfl (by kernel_rfl) (Qt.mv rfl) ?_ (Runs.guard rfl rfl rfl (by simp))
  refine RH.q hh (Calm.sq Calm.body) rfl (by kernel_rfl) (Qt.fld rfl) ?_ (Runs.guard rfl rfl rfl (by simp))
  refine RH.q hh (Calm.sq Calm.body) rfl (by kernel_rfl) (Qt.ld rfl (fun _ h => h) (by first  | rfl)) ?_ (Runs.guard rfl rfl rfl (by simp))
  refine RH.q hh (Calm.sq Calm.body) rfl (by kernel_rfl) (Qt.mv rfl) ?_ (Runs.guard rfl rfl rfl (by simp))
  refine RH.q hh (Calm.sq Calm.body) rfl (by kernel_rfl) (Qt.fld rfl) ?_ (Runs.guard rfl rfl rfl (by simp))
  refine RH.q hh (Calm.sq Calm.body) rfl (by kernel_rfl) (Qt.ld rfl (fun _ h => h) (by first  | rfl)) ?_ (Runs.guard rfl rfl rfl (by simp))
  refine RH.e hh rfl (by kernel_rfl) (Ef.call hS (bqListP p n l x.lv hx) rfl rfl Try.call18 [1] [0, 2, 3] (by decide) rfl rfl) ?_ (Runs.guard rfl rfl rfl (by simp))
  rintro v84 w ⟨ps, rfl, hS⟩
  refine ⟨(by first | exact hS.get 0 rfl | exact hS.get 1 rfl | exact hS.get 2 rfl | exact hS.get 3 rfl | exact hS.get 4 rfl), ?_⟩
  refine RH.e hh rfl (by kernel_rfl) (Ef.call hS (rqList r n l x.lv) rfl rfl Try.call36 [2] [0, 1, 3, 4] (by decide) rfl rfl) ?_ (Runs.guard rfl rfl rfl (by simp))
  rintro v88 w ⟨ps, rfl, hS⟩
  refine ⟨(by first | exact hS.get 0 rfl | exact hS.get 1 rfl | exact hS.get 2 rfl | exact hS.get 3 rfl | exact hS.get 4 rfl), ?_⟩
  refine RH.e hh rfl (by kernel_rfl) (Ef.call hS (rSame _ _ (rIds l x.lv) (rIds l x.lv) (by omega)) rfl rfl Try.call23 [2, 0] [1, 3, 4, 5] (by decide) rfl rfl) ?_ (Runs.guard rfl rfl rfl (by simp))
  rintro v89 w ⟨ps, ⟨rfl, rfl⟩, hS⟩
  refine ⟨(by first | exact hS.get 0 rfl | exact hS.get 1 rfl | exact hS.get 2 rfl | exact hS.get 3 rfl | exact hS.get 4 rfl), ?_⟩
  refine RH.q hh (Calm.sq Calm.body) rfl (by kernel_rfl) ((by first | exact Qt.pickT rfl (by assumption) rfl | exact Qt.pickF rfl (by assumption) rfl | exact Qt.pickT rfl rfl rfl | exact Qt.pickF rfl rfl rfl | exact Qt.pickT rfl (by simp) rfl)) ?_
  refine RH.q hh (Calm.sq Calm.body) rfl (by kernel_rfl) (Qt.as rfl) ?_
  refine RH.done hh (by kernel_rfl) ?_
  refine RL.nil ?_
  refine RE.sqN ?_
  refine RC.ret ?_
  -- stops: end ret
  exact RE.retB rfl ⟨by simp [oneOf], rfl⟩ (hS.pick [1, 0, 3] (by decide) rfl)
end Go.Proofs

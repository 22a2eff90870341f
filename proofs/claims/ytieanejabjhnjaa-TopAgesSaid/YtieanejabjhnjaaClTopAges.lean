/- TopAges, for every input: what waits long enough is taken ahead of any level; the arguments read as before. No condition. -/
import Derived.Test.YtieanejabjhnjaaMpf
import Derived.Test.YtieanejabjhnjaaRows
import Derived.OpenShut
/- The law TopAges answers true. -/
namespace Go.Proofs
open Go Go.Gx
variable {oo : World}

theorem numSub (a b : Int) (ha : 0 ≤ a ∧ a ≤ 18446744073709551615) (hb : 0 ≤ b ∧ b ≤ 18446744073709551615) : Ct Try.prog 45 #[.int .u64 a, .int .u64 b] [] (fun v ps => v = .int .u64 (a - Min.min a b) ∧ ps = []) := by
  refine Ct.enter Try.func45 rfl (Nat.le_of_ble_eq_true rfl) ?_
  intro oo w R hS
  change RC _ _ _ _ _ _ [(0, _), (1, _)] _
  refine RC.seq ?_
  refine RC.region rfl ?_
  refine RL.q (Qt.as rfl) ?_
  refine RL.nil ?_
  refine RE.sqN ?_
  refine RC.seq ?_
  refine RC.region rfl ?_
  refine RL.q (Qt.mv rfl) ?_
  refine RL.q (Qt.mv rfl) ?_
  refine RL.q (Qt.mv rfl) ?_
  refine RL.q (Qt.min rfl rfl) ?_
  refine RL.q ((by exact Qt.subI rfl rfl (by dsimp only [inK]; omega))) ?_
  refine RL.q (Qt.as rfl) ?_
  refine RL.nil ?_
  refine RE.sqN ?_
  refine RC.ret ?_
  exact RE.retB rfl ⟨rfl, rfl⟩ hS

theorem ageLevel (b since now per : Int) (hb : 0 ≤ b ∧ b ≤ 255) (hs : 0 ≤ since ∧ since ≤ 18446744073709551615) (hn : 0 ≤ now ∧ now ≤ 18446744073709551615) (hp : 1 ≤ per ∧ per ≤ 18446744073709551615) : Ct Try.prog 25 #[.int .u8 b, .int .u64 since, .int .u64 now, .int .u64 per] [] (fun v ps => v = .int .u8 (b + Min.min ((now - Min.min now since) / per) (255 - b)) ∧ ps = []) := by
  have hq0 : 0 ≤ (now - Min.min now since) / per := Int.ediv_nonneg (by omega) (by omega)
  have hq1 : (now - Min.min now since) / per ≤ now - Min.min now since := Int.ediv_le_self _ (by omega)
  refine Ct.enter Try.func25 rfl (Nat.le_of_ble_eq_true rfl) ?_
  intro oo w R hS
  change RC _ _ _ _ _ _ [(0, _), (1, _), (2, _), (3, _)] _
  refine RC.seq ?_
  refine RC.region rfl ?_
  refine RL.q (Qt.as rfl) ?_
  refine RL.nil ?_
  refine RE.sqN ?_
  refine RC.seq ?_
  refine RC.seq ?_
  refine RC.region rfl ?_
  refine RL.q (Qt.mv rfl) ?_
  refine RL.q (Qt.eql rfl rfl) ?_
  refine RL.nil ?_
  refine RE.sqN ?_
  refine RC.condF rfl (by simp; omega) ?_
  refine RC.skip ?_
  refine RE.sqN ?_
  refine RC.seq ?_
  refine RC.region rfl ?_
  refine RL.q (Qt.mv rfl) ?_
  refine RL.q (Qt.mv rfl) ?_
  refine RL.e (Ef.call hS (numSub now since hn hs) rfl rfl Try.call45 [] [0] (by decide) rfl rfl) ?_
  rintro v15 w ⟨ps, ⟨rfl, rfl⟩, hS⟩
  try rw [List.nil_append] at hS
  refine RL.q (Qt.mv rfl) ?_
  refine RL.q ((by exact Qt.quoI rfl rfl (by dsimp only [inK]; omega) (by omega))) ?_
  refine RL.q (Qt.as rfl) ?_
  refine RL.nil ?_
  refine RE.sqN ?_
  refine RC.seq ?_
  refine RC.region rfl ?_
  refine RL.q (Qt.mv rfl) ?_
  refine RL.q (Qt.mv rfl) ?_
  refine RL.q (Qt.mv rfl) ?_
  refine RL.q ((by exact Qt.subI rfl rfl (by dsimp only [inK]; omega))) ?_
  refine RL.q ((by exact Qt.cvtI rfl (by dsimp only [inK]; omega))) ?_
  refine RL.q (Qt.min rfl rfl) ?_
  refine RL.q ((by exact Qt.cvtI rfl (by dsimp only [inK]; omega))) ?_
  refine RL.q ((by exact Qt.addI rfl rfl (by dsimp only [inK]; omega))) ?_
  refine RL.q (Qt.as rfl) ?_
  refine RL.nil ?_
  refine RE.sqN ?_
  refine RC.ret ?_
  exact RE.retB rfl ⟨rfl, rfl⟩ hS

def tgL1 : List (List KItem) := prPut (List.replicate 2 []) 1 4 4 0 1 (kFixed 255)
def tgL2 (lv : Int) : List (List KItem) := [[⟨1, kFixed 255⟩, ⟨2, kFixed lv⟩], []]
theorem tg_err1 : prPutErr (List.replicate 2 []) 1 4 0 1 (kFixed 255) = 0 := by decide
theorem tg_err2 (lv : Int) : prPutErr tgL1 1 4 0 2 (kFixed lv) = 0 := by
  have h1 : pwOk tgL1 2 = false := by decide
  have h2 : kRight (kFixed lv) = true := rfl
  unfold prPutErr prErr
  rw [h1, h2]
  decide
theorem tg_put2 (lv : Int) (h : lv ≤ 255) : prPut tgL1 1 4 4 0 2 (kFixed lv) = tgL2 lv := by
  have e : tgL1 = [[⟨1, kFixed 255⟩], []] := rfl
  have ha : kAbove (kFixed lv) (kFixed 255) = false := by simp [kAbove, kFixed]; omega
  rw [prPut, if_pos (tg_err2 lv), e]
  have ht : prTo [[⟨1, kFixed 255⟩], []] 1 4 0 = 0 := rfl
  rw [ht]
  simp [prUpd, kput, ha, tgL2]
theorem tg_best (lv : Int) : prB (tgL2 lv) 1 0 0 = 0 := by
  have eo : prOrd 1 0 0 = [0, 1] := by decide
  have e : prB (tgL2 lv) 1 0 0 = (prOrd 1 0 0).foldl (prStep (tgL2 lv)) (-1) := if_neg (by decide)
  rw [e, eo]
  simp [prStep, tgL2]

set_option maxHeartbeats 2000000 in
theorem tgLawAges (lv per : Int) (hl : 0 ≤ lv ∧ lv ≤ 255) (hp : 0 ≤ per ∧ per ≤ 65535) (F0 : Frag) : Ct Try.prog 6 #[.int .u8 lv, .int .u16 per] [pin F0] (fun v' ps => v' = .bool true ∧ ps = [pin F0]) := by
  have hkf : (kFixed lv).ok := ⟨⟨Int.le_refl 0, (by decide : (0 : Int) ≤ 18446744073709551615)⟩, hl⟩
  have e1 : 0 + Min.min ((256 * (per + 1) - Min.min (256 * (per + 1)) 0) / (per + 1)) (255 - 0) = 255 := by
    have : Min.min (256 * (per + 1)) 0 = 0 := by omega
    rw [this, Int.sub_zero, Int.mul_ediv_cancel _ (by omega)]
    decide
  have e2 : lv + Min.min ((256 * (per + 1) - Min.min (256 * (per + 1)) (256 * (per + 1))) / (per + 1)) (255 - lv) = lv := by
    rw [Int.min_self, Int.sub_self, Int.zero_ediv]
    omega
  have hkw : ∀ k : KKey, (wr #[.bool false, .int .u64 0, .int .u8 0] 0 k.cells).extract 0 (0 + 3) = k.cells.toArray := fun k => rfl
  refine Ct.enter Try.func6 rfl (Nat.le_of_ble_eq_true rfl) ?_
  intro oo w R hS
  change RC _ _ _ _ _ _ [(0, _), (1, _)] _
  refine RC.seq ?_
  refine RC.region rfl ?_
  refine RL.q (Qt.as rfl) ?_
  refine RL.nil ?_
  refine RE.sqN ?_
  refine RC.seq ?_
  refine RC.region rfl ?_
  refine RL.e (Ef.call hS (prNew 1 4 4 (by decide) (by decide) (by decide) (by decide) (by decide) (by decide)) rfl rfl Try.call14 [] [0, 1] (by decide) rfl rfl) ?_
  rintro v14 w ⟨ps, ⟨⟨bq, rfl⟩, rfl⟩, hS⟩
  refine RL.q (Qt.as rfl) ?_
  refine RL.nil ?_
  refine RE.sqN ?_
  refine RC.seq ?_
  refine RC.region rfl ?_
  refine RL.q (Qt.mv rfl) ?_
  refine RL.q ((by exact Qt.cvtI rfl (by dsimp only [inK]; omega))) ?_
  refine RL.q ((by exact Qt.addI rfl rfl (by dsimp only [inK]; omega))) ?_
  refine RL.q (Qt.as rfl) ?_
  refine RL.nil ?_
  refine RE.sqN ?_
  refine RC.seq ?_
  refine RC.region rfl ?_
  refine RL.q (Qt.mv rfl) ?_
  refine RL.q ((by exact Qt.mulI rfl rfl (by dsimp only [inK]; omega))) ?_
  refine RL.q (Qt.as rfl) ?_
  refine RL.nil ?_
  refine RE.sqN ?_
  refine RC.seq ?_
  refine RC.region rfl ?_
  refine RL.q (Qt.mv rfl) ?_
  refine RL.q (Qt.mv rfl) ?_
  refine RL.e (Ef.call hS (ageLevel 0 0 (256 * (per + 1)) (per + 1) (by omega) (by omega) (by omega) (by omega)) rfl rfl Try.call25 [] [0, 1, 2] (by decide) rfl rfl) ?_
  rintro v22 w ⟨ps, ⟨rfl, rfl⟩, hS⟩
  try rw [List.nil_append] at hS
  rw [e1]
  refine RL.q (Qt.as rfl) ?_
  refine RL.nil ?_
  refine RE.sqN ?_
  refine RC.seq ?_
  refine RC.region rfl ?_
  refine RL.q (Qt.mv rfl) ?_
  refine RL.q (Qt.mv rfl) ?_
  refine RL.q (Qt.mv rfl) ?_
  refine RL.q (Qt.mv rfl) ?_
  refine RL.e (Ef.call hS (ageLevel lv (256 * (per + 1)) (256 * (per + 1)) (per + 1) (by omega) (by omega) (by omega) (by omega)) rfl rfl Try.call25 [] [0, 1, 2] (by decide) rfl rfl) ?_
  rintro v27 w ⟨ps, ⟨rfl, rfl⟩, hS⟩
  try rw [List.nil_append] at hS
  rw [e2]
  refine RL.q (Qt.as rfl) ?_
  refine RL.nil ?_
  refine RE.sqN ?_
  refine RC.seq ?_
  refine RC.seq ?_
  refine RC.region rfl ?_
  refine RL.q (Qt.mv rfl) ?_
  refine RL.q (Qt.mv rfl) ?_
  refine RL.e (Ef.call hS (kyFixed 255) rfl rfl Try.call16 [] [0, 1, 2] (by decide) rfl rfl) ?_
  rintro v30 w ⟨ps, ⟨rfl, rfl⟩, hS⟩
  try rw [List.nil_append] at hS
  refine RL.e (Ef.call hS (prPutC _ 1 4 4 0 (List.replicate 2 []) 0 1 (kFixed 255) ⟨by decide, by decide⟩ (by decide)) rfl rfl Try.call15 [0] [1, 2] (by decide) rfl rfl) ?_
  rintro v31 w ⟨ps, ⟨rfl, rfl⟩, hS⟩
  rw [tg_err1]
  refine RL.q (Qt.neq rfl rfl) ?_
  refine RL.q (Qt.mv rfl) ?_
  refine RL.q (Qt.mv rfl) ?_ (Runs.guard rfl rfl rfl (rfl))
  refine RL.q (Qt.mv rfl) ?_ (Runs.guard rfl rfl rfl (rfl))
  refine RL.e (Ef.call hS (kyFixed lv) rfl rfl Try.call16 [] [0, 1, 2] (by decide) rfl rfl) ?_ (Runs.guard rfl rfl rfl (rfl))
  rintro v36 w ⟨ps, ⟨rfl, rfl⟩, hS⟩
  try rw [List.nil_append] at hS
  refine RL.e (Ef.call hS (prPutC _ 1 4 4 1 tgL1 0 2 (kFixed lv) hkf (by decide)) rfl rfl Try.call15 [0] [1, 2] (by decide) rfl rfl) ?_ (Runs.guard rfl rfl rfl (rfl))
  rintro v37 w ⟨ps, ⟨rfl, rfl⟩, hS⟩
  rw [tg_err2]
  rw [tg_put2 lv hl.2] at hS
  refine RL.q (Qt.neq rfl rfl) ?_ (Runs.guard rfl rfl rfl (rfl))
  refine RL.q ((by exact Qt.pickF rfl rfl rfl)) ?_
  refine RL.nil ?_
  refine RE.sqN ?_
  refine RC.condF rfl (rfl) ?_
  refine RC.skip ?_
  refine RE.sqN ?_
  refine RC.seq ?_
  refine RC.region rfl ?_
  refine RL.q (Qt.mv rfl) ?_
  refine RL.e (Ef.call hS (prTakeC _ 1 4 4 2 (tgL2 lv) 0 0 (by decide)) rfl rfl Try.call19 [0] [1, 2] (by decide) rfl rfl) ?_
  rintro v42 w ⟨ps, ⟨rfl, rfl⟩, hS⟩
  rw [tg_best]
  rw [tg_best] at hS
  refine RL.q (Qt.mv rfl) ?_
  refine RL.q (Qt.ext rfl rfl) ?_
  refine RL.q (Qt.ext rfl rfl) ?_
  refine RL.q (Qt.ext rfl rfl) ?_
  refine RL.q (Qt.ext rfl rfl) ?_
  refine RL.e (Ef.alloc hS) ?_
  rintro _ w ⟨b11, rfl, hS⟩
  try simp (disch := omega) only [cells_agg'] at hS
  refine RL.q (Qt.as rfl) ?_
  refine RL.e0 (Ef.st hS 0 rfl rfl rfl (by rfl) (by rfl) (by exact Nat.le_of_ble_eq_true rfl)) ?_
  intro _ w hS
  simp (disch := omega) only [List.set_cons_zero, cells_agg'] at hS
  refine RL.q (Qt.as rfl) ?_
  refine RL.q (Qt.as rfl) ?_
  refine RL.nil ?_
  refine RE.sqN ?_
  refine RC.seq ?_
  refine RC.drawn 16 [0, 1, 2, 3, 4, 5, 6, 7, 8, 9, 10, 11, 12, 13, 14, 15] (fun w' => w'.heap[b11]? = some (.cells (wr #[.bool false, .int .u64 0, .int .u8 0] 0 (kFixed 255).cells) 31 (0, 0))) (by kernel_rfl) (by kernel_rfl) ((by exact hS.drew.get 0 rfl)) (fun hh => ?_)
  replace hS := hS.drew
  refine RH.q hh (Calm.sq Calm.body) rfl (by kernel_rfl) (Qt.mv rfl) ?_
  refine RH.q hh (Calm.sq Calm.body) rfl (by kernel_rfl) (Qt.mv rfl) ?_
  refine RH.q hh (Calm.sq Calm.body) rfl (by kernel_rfl) (Qt.mv rfl) ?_ (Runs.guard rfl rfl rfl (by rfl))
  refine RH.q hh (Calm.sq Calm.body) rfl (by kernel_rfl) (Qt.eql rfl rfl) ?_ (Runs.guard rfl rfl rfl (by rfl))
  refine RH.q hh (Calm.sq Calm.body) rfl (by kernel_rfl) ((by exact Qt.pickT rfl rfl rfl)) ?_
  refine RH.q hh (Calm.sq Calm.body) rfl (by kernel_rfl) (Qt.mv rfl) ?_
  refine RH.q hh (Calm.sq Calm.body) rfl (by kernel_rfl) (Qt.ldA rfl (fun _ h => h) (by exact hkw _) (by exact Nat.le_of_ble_eq_true rfl)) ?_ (Runs.guard rfl rfl rfl (by rfl))
  refine RH.e hh rfl (by kernel_rfl) (Ef.call hS (kyFixed 255) rfl rfl Try.call16 [] [0, 1, 2, 3] (by decide) rfl rfl) ?_ (Runs.guard rfl rfl rfl (by rfl))
  rintro v54 w ⟨ps, ⟨rfl, rfl⟩, hS⟩
  try rw [List.nil_append] at hS
  refine ⟨(by exact hS.get 0 rfl), ?_⟩
  refine RH.q hh (Calm.sq Calm.body) rfl (by kernel_rfl) (Qt.eqlT rfl rfl (keyEq (kFixed 255) (kFixed 255))) ?_ (Runs.guard rfl rfl rfl (by rfl))
  refine RH.q hh (Calm.sq Calm.body) rfl (by kernel_rfl) ((by exact Qt.pickT rfl rfl rfl)) ?_
  refine RH.q hh (Calm.sq Calm.body) rfl (by kernel_rfl) (Qt.mv rfl) ?_
  refine RH.q hh (Calm.sq Calm.body) rfl (by kernel_rfl) (Qt.mv rfl) ?_ (Runs.guard rfl rfl rfl (by rfl))
  refine RH.q hh (Calm.sq Calm.body) rfl (by kernel_rfl) (Qt.mv rfl) ?_ (Runs.guard rfl rfl rfl (by rfl))
  refine RH.q hh (Calm.sq Calm.body) rfl (by kernel_rfl) (Qt.eql rfl rfl) ?_ (Runs.guard rfl rfl rfl (by rfl))
  refine RH.q hh (Calm.sq Calm.body) rfl (by kernel_rfl) ((by exact Qt.pickT rfl rfl rfl)) ?_
  refine RH.q hh (Calm.sq Calm.body) rfl (by kernel_rfl) (Qt.as rfl) ?_
  refine RH.done hh (by kernel_rfl) ?_
  refine RL.nil ?_
  refine RE.sqN ?_
  refine RC.ret ?_
  exact RE.retB rfl ⟨by simp [oneOf], rfl⟩ (hS.pick [2, 3] (by decide) rfl)
end Go.Proofs

/- TopAges, for every input: what waits long enough is taken ahead of any level; the arguments read as before. No condition. -/
namespace Go.Proofs
open Go Go.Gx Go.ChangeShapes Go.WideShapes Go.ChangeAt Go.RowKit Go.Deep
namespace Ytieanejabjhnjaa
set_option maxRecDepth 100000 in
theorem topAges_lifted (os : Os) (started : os.Started) (H : Type) (enc : TypeId × Value → H) :
    ReturnsInHanded {} Try.checked os 6 .any (Rows.topAgesSpec.pre6 enc Try.prog Try.f6 Rows.topAgesRow.domain false) (Rows.topAgesSpec.post enc Try.prog Try.f6 false true false false) := by
  refine returnsInHanded_of_change (C := Try.checked) own_knob started (by kernel_rfl) Try.func6
    (ChangeSpec.witness6 (enc := enc) (C := Try.checked) false ⟨#[], #[.int .u8 0, .int .u16 0], []⟩ 8 (by kernel_rfl) (by kernel_rfl) (by kernel_rfl) (by kernel_rfl)) ?_
  intro W base args ds gs before hval0 hW hcnd _
  have hval : ∀ (j : Nat) t v, Try.f6.params[j]? = some t → args[j]? = some v → Value.okWide Try.prog W .any base t v := hval0
  have hW' := hW
  obtain ⟨p, q, hA0, hV, rfl, hfz, hnd⟩ := hW
  have hA : DataW.TrodAll enc Try.prog W 0 (fun _ => true) true Try.f6.params.toList args.toList ds p := hA0
  rw [Try.params6] at hA hval
  obtain ⟨v0, v1, d0, d1, p0, p1, rfl, rfl, rfl, h0, h1⟩ := trodAll_two hA
  obtain ⟨rfl, rfl⟩ := trodVars_none hV
  obtain ⟨lv, rfl, _, _, wlv⟩ := open_int (TI.u (P := Try.prog) (t := 5)) (hval 0 _ v0 rfl rfl) h0
  obtain ⟨per, rfl, _, _, wper⟩ := open_int (TI.u (P := Try.prog) (t := 28)) (hval 1 _ v1 rfl rfl) h1
  refine (tgLawAges lv per (bounds_u8 wlv) (bounds_u16 wper) (allOf W)).law.mono fun e W' ⟨he, hb⟩ => ?_
  subst he
  exact ⟨_, rfl, law_post laid_out (by rw [Try.params6]; decide +kernel) hW' rfl hb rfl (TI.u (P := Try.prog) (t := 4)) rfl rfl rfl⟩

theorem topAges_holds : Rows.TopAgesSaid :=
  OpenClaim.holds_of_wide 6 Try.f6 rfl rfl rfl rfl rfl rfl rfl ⟨rfl, rfl, rfl, rfl, rfl⟩ rfl rfl rfl rfl rfl (by kernel_rfl) Try.func6 (by show joinedFacts Try.prog 6 Try.f6 Rows.topAgesSpec Rows.topAgesRow = true; unfold joinedFacts; rw [may_enter, lifts_final, make_is]; kernel_rfl)
    (of_decide_eq_true (by kernel_rfl)) (by unfold Func.isWrapper; (rw [if_neg (by decide +kernel)]; exact ⟨rfl, rfl⟩))
    (fun os started H enc _ => topAges_lifted os started H enc)
end Ytieanejabjhnjaa
end Go.Proofs

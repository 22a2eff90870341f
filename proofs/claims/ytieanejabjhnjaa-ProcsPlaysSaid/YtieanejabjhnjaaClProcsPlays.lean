/- ProcsPlays, for every input: what is ready, and where, is just what the document says, behind any deeds; the arguments read as before. No condition. -/
import Derived.Test.YtieanejabjhnjaaMpf
import Derived.Test.YtieanejabjhnjaaRows
/- The law ProcsPlays answers true. -/
namespace Go.Proofs
open Go Go.Gx
variable {oo : World}

set_option maxHeartbeats 1000000 in
theorem prLawPlays (n : Int) (hn : 0 ≤ n ∧ n ≤ 255) (v : Value) (ds : List ODeed) (x : ODeed) (F0 : Frag) (hR : ODeedsAt v ds F0) (hd : ∀ x ∈ ds, x.ok) (hx : x.ok) : Ct Try.prog 9 #[.int .u8 n, v, x.val] [pin F0] (fun v' ps => v' = .bool true ∧ ps = [pin F0]) := by
  refine Ct.enter Try.func9 rfl (Nat.le_of_ble_eq_true rfl) ?_
  intro oo w R hS
  change RC _ _ _ _ _ _ [(0, _), (1, _), (2, _)] _
  have hx7 : x.cells.toArray.extract 0 (0 + 7) = x.cells.toArray := rfl
  refine RC.seq ?_
  refine RC.region rfl ?_
  refine RL.e (Ef.box hS rfl) ?_
  rintro _ w ⟨b5, rfl, hS⟩
  try simp (disch := omega) only [List.set_cons_zero, List.set_cons_succ, cells_int, cells_bool, cells_ptr, cells_slice, cells_func, cells_agg, cells_map, cells_int', cells_bool', cells_ptr', cells_slice', cells_agg', cells_map', cells_func', Nat.zero_add, wr, List.setIfInBounds_toArray] at hS
  refine RL.q (Qt.as rfl) ?_
  refine RL.nil ?_
  refine RE.sqN ?_
  refine RC.seq ?_
  refine RC.region rfl ?_
  refine RL.q (Qt.mv rfl) ?_
  refine RL.q (Qt.mv rfl) ?_
  refine RL.e (Ef.call hS (prPlay n hn v ds F0 hR hd) rfl rfl Try.call22 [1] [0, 2] (by decide) rfl rfl) ?_
  rintro v13 w ⟨ps, ⟨b, r, L, rfl, hok, hro, rfl⟩, hS⟩
  refine RL.q (Qt.mv rfl) ?_
  refine RL.q (Qt.ext rfl rfl) ?_
  refine RL.q (Qt.ext rfl rfl) ?_
  refine RL.q (Qt.ext rfl rfl) ?_
  refine RL.q (Qt.as rfl) ?_
  refine RL.q (Qt.as rfl) ?_
  refine RL.q (Qt.as rfl) ?_
  refine RL.nil ?_
  refine RE.sqN ?_
  refine RC.seq ?_
  refine RC.region rfl ?_
  refine RL.e (Ef.call hS (prLive) rfl rfl Try.call23 [] [0, 1, 2, 3, 4] (by decide) rfl rfl) ?_
  rintro v17 w ⟨ps, ⟨rfl, p', L', rfl⟩, hS⟩
  refine RL.q (Qt.mv rfl) ?_
  refine RLG.start 18 true rfl ?_
  refine RLG.q rfl rfl rfl (fun _ => Qt.mv rfl) ?_
  refine RLG.and rfl rfl ?_
  refine RL.q (Qt.mv rfl) ?_
  refine RL.q (Qt.mv rfl) ?_ (Runs.guard rfl rfl rfl (rfl))
  refine RL.q (Qt.mv rfl) ?_ (Runs.guard rfl rfl rfl (rfl))
  refine RL.q (Qt.ldA rfl (by exact hS.at 4 rfl) (by exact hx7) (by exact Nat.le_of_ble_eq_true rfl)) ?_ (Runs.guard rfl rfl rfl (rfl))
  refine RL.e (Ef.call hS (prSame _ r _ _ _ _ L x hx) rfl rfl Try.call31 [1, 2] [0, 3, 4, 5] (by decide) rfl rfl) ?_ (Runs.guard rfl rfl rfl (rfl))
  rintro v25 w ⟨ps, ⟨rfl, rfl⟩, hS⟩
  refine RL.q ((by exact Qt.pickT rfl rfl rfl)) ?_
  refine RL.q (Qt.as rfl) ?_
  refine RL.nil ?_
  refine RE.sqN ?_
  refine RC.ret ?_
  exact RE.retB rfl ⟨rfl, rfl⟩ (hS.pick [3, 5] (by decide) rfl)
end Go.Proofs

/- ProcsPlays, for every input: what is ready, and where, is just what the document says, behind any deeds; the arguments read as before. No condition. -/
namespace Go.Proofs
open Go Go.Gx Go.ChangeShapes Go.WideShapes Go.ChangeAt Go.RowKit Go.Deep
namespace Ytieanejabjhnjaa
set_option maxRecDepth 100000 in
theorem procsPlays_lifted (os : Os) (started : os.Started) (H : Type) (enc : TypeId × Value → H) :
    ReturnsInHanded {} Try.checked os 9 .any (Rows.procsPlaysSpec.pre6 enc Try.prog Try.f9 Rows.procsPlaysRow.domain false) (Rows.procsPlaysSpec.post enc Try.prog Try.f9 false true false false) := by
  refine returnsInHanded_of_change (C := Try.checked) own_knob started (by kernel_rfl) Try.func9
    (ChangeSpec.witness6 (enc := enc) (C := Try.checked) false ⟨#[], #[.int .u8 0, .slice none 0 0, .agg #[.int .i64 0, .int .i64 0, .int .i64 0, .bool false, .int .u64 0, .int .u8 0, .int .u64 0]], []⟩ 8 (by kernel_rfl) (by kernel_rfl) (by kernel_rfl) (by kernel_rfl)) ?_
  intro W base args ds gs before hval0 hW hcnd _
  have hval : ∀ (j : Nat) t v, Try.f9.params[j]? = some t → args[j]? = some v → Value.okWide Try.prog W .any base t v := hval0
  have hW' := hW
  obtain ⟨p, q, hA0, hV, rfl, hfz, hnd⟩ := hW
  have hA : DataW.TrodAll enc Try.prog W 0 (fun _ => true) true Try.f9.params.toList args.toList ds p := hA0
  rw [Try.params9] at hA hval
  obtain ⟨v0, v1, v2, d0, d1, d2, p0, p1, p2, rfl, rfl, rfl, h0, h1, h2⟩ := trodAll_three hA
  obtain ⟨rfl, rfl⟩ := trodVars_none hV
  obtain ⟨n, rfl, _, _, wn⟩ := open_int (TI.u (P := Try.prog) (t := 5)) (hval 0 _ v0 rfl rfl) h0
  obtain ⟨dl, hdl, okdl⟩ := prDeeds_open (hval 1 _ v1 rfl rfl) h1
  obtain ⟨x, rfl, okx⟩ := prDeed_open (hval 2 _ v2 rfl rfl) h2
  refine (prLawPlays n (bounds_u8 wn) v1 dl x (allOf W) hdl okdl okx).law.mono fun e W' ⟨he, hb⟩ => ?_
  subst he
  exact ⟨_, rfl, law_post laid_out (by rw [Try.params9]; decide +kernel) hW' rfl hb rfl (TI.u (P := Try.prog) (t := 4)) rfl rfl rfl⟩

theorem procsPlays_holds : Rows.ProcsPlaysSaid :=
  OpenClaim.holds_of_wide 9 Try.f9 rfl rfl rfl rfl rfl rfl rfl ⟨rfl, rfl, rfl, rfl, rfl⟩ rfl rfl rfl rfl rfl (by kernel_rfl) Try.func9 (by show joinedFacts Try.prog 9 Try.f9 Rows.procsPlaysSpec Rows.procsPlaysRow = true; unfold joinedFacts; rw [may_enter, lifts_final, make_is]; kernel_rfl)
    (of_decide_eq_true (by kernel_rfl)) (by unfold Func.isWrapper; (rw [if_neg (by decide +kernel)]; exact ⟨rfl, rfl⟩))
    (fun os started H enc _ => procsPlays_lifted os started H enc)
end Ytieanejabjhnjaa
end Go.Proofs

/- ReadyFalls, for every input: what is taken one behind the other falls in urgency, and is the list; the arguments read as before. No condition. -/
import Derived.Test.YtlicnplclfclcaaRows
import Derived.Test.YtlicnplclfclcaaRdR
import Derived.Test.YtlicnplclfclcaaRdY
namespace Go.Proofs
open Go Go.Gx Go.ChangeShapes Go.WideShapes Go.ChangeAt Go.RowKit Go.Deep
namespace Ytlicnplclfclcaa
set_option maxRecDepth 100000 in
theorem readyFalls_lifted (os : Os) (started : os.Started) (H : Type) (enc : TypeId × Value → H) :
    ReturnsInHanded {} Try.checked os 11 .any (Rows.readyFallsSpec.pre6 enc Try.prog Try.f11 Rows.readyFallsRow.domain false) (Rows.readyFallsSpec.post enc Try.prog Try.f11 false true false false) := by
  refine returnsInHanded_of_change (C := Try.checked) own_knob started (by kernel_rfl) Try.func11
    (ChangeSpec.witness6 (enc := enc) (C := Try.checked) false ⟨#[], #[.int .u8 0, .slice none 0 0], []⟩ 8 (by kernel_rfl) (by kernel_rfl) (by kernel_rfl) (by kernel_rfl)) ?_
  intro W base args ds gs before hval0 hW hcnd _
  have hval : ∀ (j : Nat) t v, Try.f11.params[j]? = some t → args[j]? = some v → Value.okWide Try.prog W .any base t v := hval0
  have hW' := hW
  obtain ⟨p, q, hA0, hV, rfl, hfz, hnd⟩ := hW
  have hA : DataW.TrodAll enc Try.prog W 0 (fun _ => true) true Try.f11.params.toList args.toList ds p := hA0
  rw [Try.params11] at hA hval
  obtain ⟨v0, v1, d0, d1, p0, p1, rfl, rfl, rfl, h0, h1⟩ := trodAll_two hA
  obtain ⟨rfl, rfl⟩ := trodVars_none hV
  obtain ⟨n, rfl, _, _, wn⟩ := open_int (TI.u (P := Try.prog) (t := 5)) (hval 0 _ v0 rfl rfl) h0
  obtain ⟨dl, hdl, okdl⟩ := rdDeeds_open (hval 1 _ v1 rfl rfl) h1
  refine (rdLawFalls n (bounds_u8 wn) v1 dl (allOf W) hdl okdl).law.mono fun e W' ⟨he, hb⟩ => ?_
  subst he
  exact ⟨_, rfl, law_post laid_out (by rw [Try.params11]; decide +kernel) hW' rfl hb rfl (TI.u (P := Try.prog) (t := 4)) rfl rfl rfl⟩

theorem readyFalls_holds : Rows.ReadyFallsSaid :=
  OpenClaim.holds_of_wide 11 Try.f11 rfl rfl rfl rfl rfl rfl rfl ⟨rfl, rfl, rfl, rfl, rfl⟩ rfl rfl rfl rfl rfl (by kernel_rfl) Try.func11 (by show joinedFacts Try.prog 11 Try.f11 Rows.readyFallsSpec Rows.readyFallsRow = true; unfold joinedFacts; rw [may_enter, lifts_final, make_is]; kernel_rfl)
    (of_decide_eq_true (by kernel_rfl)) (by unfold Func.isWrapper; first | (rw [if_pos (by decide +kernel)]; kernel_rfl) | (rw [if_neg (by decide +kernel)]; exact ⟨rfl, rfl⟩))
    (fun os started H enc _ => readyFalls_lifted os started H enc)
end Ytlicnplclfclcaa
end Go.Proofs

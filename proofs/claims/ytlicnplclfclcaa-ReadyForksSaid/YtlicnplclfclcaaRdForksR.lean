/- ReadyForks, for every input: what becomes of a fork changes nothing; the arguments read as before. No condition. -/
import Derived.Test.YtlicnplclfclcaaRows
import Derived.Test.YtlicnplclfclcaaRdR
import Derived.Test.YtlicnplclfclcaaRdS
namespace Go.Proofs
open Go Go.Gx Go.ChangeShapes Go.WideShapes Go.ChangeAt Go.RowKit Go.Deep
namespace Ytlicnplclfclcaa
set_option maxRecDepth 100000 in
theorem readyForks_lifted (os : Os) (started : os.Started) (H : Type) (enc : TypeId × Value → H) :
    ReturnsInHanded {} Try.checked os 16 .any (Rows.readyForksSpec.pre6 enc Try.prog Try.f16 Rows.readyForksRow.domain false) (Rows.readyForksSpec.post enc Try.prog Try.f16 false true false false) := by
  refine returnsInHanded_of_change (C := Try.checked) own_knob started (by kernel_rfl) Try.func16
    (ChangeSpec.witness6 (enc := enc) (C := Try.checked) false ⟨#[], #[.slice none 0 0, .slice none 0 0], []⟩ 8 (by kernel_rfl) (by kernel_rfl) (by kernel_rfl) (by kernel_rfl)) ?_
  intro W base args ds gs before hval0 hW hcnd _
  have hval : ∀ (j : Nat) t v, Try.f16.params[j]? = some t → args[j]? = some v → Value.okWide Try.prog W .any base t v := hval0
  have hW' := hW
  obtain ⟨p, q, hA0, hV, rfl, hfz, hnd⟩ := hW
  have hA : DataW.TrodAll enc Try.prog W 0 (fun _ => true) true Try.f16.params.toList args.toList ds p := hA0
  rw [Try.params16] at hA hval
  obtain ⟨v0, v1, d0, d1, p0, p1, rfl, rfl, rfl, h0, h1⟩ := trodAll_two hA
  obtain ⟨rfl, rfl⟩ := trodVars_none hV
  obtain ⟨dl, hdl, okdl⟩ := rdDeeds_open (hval 0 _ v0 rfl rfl) h0
  obtain ⟨el, hel, okel⟩ := rdDeeds_open (hval 1 _ v1 rfl rfl) h1
  refine (rdLawForks v0 v1 dl el (allOf W) hdl hel okdl okel).law.mono fun e W' ⟨he, hb⟩ => ?_
  subst he
  exact ⟨_, rfl, law_post laid_out (by rw [Try.params16]; decide +kernel) hW' rfl hb rfl (TI.u (P := Try.prog) (t := 4)) rfl rfl rfl⟩

theorem readyForks_holds : Rows.ReadyForksSaid :=
  OpenClaim.holds_of_wide 16 Try.f16 rfl rfl rfl rfl rfl rfl rfl ⟨rfl, rfl, rfl, rfl, rfl⟩ rfl rfl rfl rfl rfl (by kernel_rfl) Try.func16 (by show joinedFacts Try.prog 16 Try.f16 Rows.readyForksSpec Rows.readyForksRow = true; unfold joinedFacts; rw [may_enter, lifts_final, make_is]; kernel_rfl)
    (of_decide_eq_true (by kernel_rfl)) (by unfold Func.isWrapper; first | (rw [if_pos (by decide +kernel)]; kernel_rfl) | (rw [if_neg (by decide +kernel)]; exact ⟨rfl, rfl⟩))
    (fun os started H enc _ => readyForks_lifted os started H enc)
end Ytlicnplclfclcaa
end Go.Proofs

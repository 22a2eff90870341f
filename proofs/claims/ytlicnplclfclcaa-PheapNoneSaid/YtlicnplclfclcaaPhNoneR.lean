/- PheapNone, for every input: a nil heap answers so; sizes that may not be; the arguments read as before. No condition. -/
import Derived.Test.YtlicnplclfclcaaRows
import Derived.Test.YtlicnplclfclcaaPhR
import Derived.Test.YtlicnplclfclcaaPhZ
namespace Go.Proofs
open Go Go.Gx Go.ChangeShapes Go.WideShapes Go.ChangeAt Go.RowKit Go.Deep
namespace Ytlicnplclfclcaa
set_option maxRecDepth 100000 in
theorem pheapNone_lifted (os : Os) (started : os.Started) (H : Type) (enc : TypeId × Value → H) :
    ReturnsInHanded {} Try.checked os 9 .any (Rows.pheapNoneSpec.pre6 enc Try.prog Try.f9 Rows.pheapNoneRow.domain false) (Rows.pheapNoneSpec.post enc Try.prog Try.f9 false true false false) := by
  refine returnsInHanded_of_change (C := Try.checked) own_knob started (by kernel_rfl) Try.func9
    (ChangeSpec.witness6 (enc := enc) (C := Try.checked) false ⟨#[], #[.agg #[.int .i64 0, .int .i64 0, .int .u64 0, .int .u64 0], .int .i64 0], []⟩ 8 (by kernel_rfl) (by kernel_rfl) (by kernel_rfl) (by kernel_rfl)) ?_
  intro W base args ds gs before hval0 hW hcnd _
  have hval : ∀ (j : Nat) t v, Try.f9.params[j]? = some t → args[j]? = some v → Value.okWide Try.prog W .any base t v := hval0
  have hW' := hW
  obtain ⟨p, q, hA0, hV, rfl, hfz, hnd⟩ := hW
  have hA : DataW.TrodAll enc Try.prog W 0 (fun _ => true) true Try.f9.params.toList args.toList ds p := hA0
  rw [Try.params9] at hA hval
  obtain ⟨v0, v1, d0, d1, p0, p1, rfl, rfl, rfl, h0, h1⟩ := trodAll_two hA
  obtain ⟨rfl, rfl⟩ := trodVars_none hV
  obtain ⟨x, rfl, okx⟩ := phDeed_open (hval 0 _ v0 rfl rfl) h0
  obtain ⟨n, rfl, _, _, wn⟩ := open_int (TI.u (P := Try.prog) (t := 3)) (hval 1 _ v1 rfl rfl) h1
  refine (phLawNone x n (allOf W)).law.mono fun e W' ⟨he, hb⟩ => ?_
  subst he
  exact ⟨_, rfl, law_post laid_out (by rw [Try.params9]; decide +kernel) hW' rfl hb rfl (TI.u (P := Try.prog) (t := 4)) rfl rfl rfl⟩

theorem pheapNone_holds : Rows.PheapNoneSaid :=
  OpenClaim.holds_of_wide 9 Try.f9 rfl rfl rfl rfl rfl rfl rfl ⟨rfl, rfl, rfl, rfl, rfl⟩ rfl rfl rfl rfl rfl (by kernel_rfl) Try.func9 (by show joinedFacts Try.prog 9 Try.f9 Rows.pheapNoneSpec Rows.pheapNoneRow = true; unfold joinedFacts; rw [may_enter, lifts_final, make_is]; kernel_rfl)
    (of_decide_eq_true (by kernel_rfl)) (by unfold Func.isWrapper; first | (rw [if_pos (by decide +kernel)]; kernel_rfl) | (rw [if_neg (by decide +kernel)]; exact ⟨rfl, rfl⟩))
    (fun os started H enc _ => pheapNone_lifted os started H enc)
end Ytlicnplclfclcaa
end Go.Proofs

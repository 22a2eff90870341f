/- ReadyNone, for every input: a nil set answers so; sizes that may not be; the arguments read as before. No condition. -/
import Derived.Test.YtlicnplclfclcaaRows
import Derived.Test.YtlicnplclfclcaaRdR
import Derived.Test.YtlicnplclfclcaaRdZ
namespace Go.Proofs
open Go Go.Gx Go.ChangeShapes Go.WideShapes Go.ChangeAt Go.RowKit Go.Deep
namespace Ytlicnplclfclcaa
set_option maxRecDepth 100000 in
theorem readyNone_lifted (os : Os) (started : os.Started) (H : Type) (enc : TypeId × Value → H) :
    ReturnsInHanded {} Try.checked os 17 .any (Rows.readyNoneSpec.pre6 enc Try.prog Try.f17 Rows.readyNoneRow.domain false) (Rows.readyNoneSpec.post enc Try.prog Try.f17 false true false false) := by
  refine returnsInHanded_of_change (C := Try.checked) own_knob started (by kernel_rfl) Try.func17
    (ChangeSpec.witness6 (enc := enc) (C := Try.checked) false ⟨#[], #[.agg #[.int .i64 0, .int .i64 0, .bool false, .int .u64 0, .int .u8 0], .int .i64 0, .int .i64 0], []⟩ 8 (by kernel_rfl) (by kernel_rfl) (by kernel_rfl) (by kernel_rfl)) ?_
  intro W base args ds gs before hval0 hW hcnd _
  have hval : ∀ (j : Nat) t v, Try.f17.params[j]? = some t → args[j]? = some v → Value.okWide Try.prog W .any base t v := hval0
  have hW' := hW
  obtain ⟨p, q, hA0, hV, rfl, hfz, hnd⟩ := hW
  have hA : DataW.TrodAll enc Try.prog W 0 (fun _ => true) true Try.f17.params.toList args.toList ds p := hA0
  rw [Try.params17] at hA hval
  obtain ⟨v0, v1, v2, d0, d1, d2, p0, p1, p2, rfl, rfl, rfl, h0, h1, h2⟩ := trodAll_three hA
  obtain ⟨rfl, rfl⟩ := trodVars_none hV
  obtain ⟨x, rfl, okx⟩ := rdDeed_open (hval 0 _ v0 rfl rfl) h0
  obtain ⟨n, rfl, _, _, wn⟩ := open_int (TI.u (P := Try.prog) (t := 3)) (hval 1 _ v1 rfl rfl) h1
  obtain ⟨most, rfl, _, _, wmost⟩ := open_int (TI.u (P := Try.prog) (t := 3)) (hval 2 _ v2 rfl rfl) h2
  refine (rdLawNone x n most (allOf W)).law.mono fun e W' ⟨he, hb⟩ => ?_
  subst he
  exact ⟨_, rfl, law_post laid_out (by rw [Try.params17]; decide +kernel) hW' rfl hb rfl (TI.u (P := Try.prog) (t := 4)) rfl rfl rfl⟩

theorem readyNone_holds : Rows.ReadyNoneSaid :=
  OpenClaim.holds_of_wide 17 Try.f17 rfl rfl rfl rfl rfl rfl rfl ⟨rfl, rfl, rfl, rfl, rfl⟩ rfl rfl rfl rfl rfl (by kernel_rfl) Try.func17 (by show joinedFacts Try.prog 17 Try.f17 Rows.readyNoneSpec Rows.readyNoneRow = true; unfold joinedFacts; rw [may_enter, lifts_final, make_is]; kernel_rfl)
    (of_decide_eq_true (by kernel_rfl)) (by unfold Func.isWrapper; first | (rw [if_pos (by decide +kernel)]; kernel_rfl) | (rw [if_neg (by decide +kernel)]; exact ⟨rfl, rfl⟩))
    (fun os started H enc _ => readyNone_lifted os started H enc)
end Ytlicnplclfclcaa
end Go.Proofs

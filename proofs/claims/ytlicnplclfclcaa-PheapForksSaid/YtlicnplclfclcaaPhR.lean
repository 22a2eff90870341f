/- The deeds of layer 3 among the arguments of a law. No condition. -/
import Derived.Test.YtlicnplclfclcaaPhW
namespace Go.Proofs
open Go Go.Gx Go.ChangeShapes Go.WideShapes Go.ChangeAt Go.RowKit Go.Deep

theorem phDeed_cells : Try.prog.cellsOf 37 = 4 := by kernel_rfl
theorem phDeed_c0 : Try.prog.cellsOf 3 = 1 := by kernel_rfl
theorem phDeed_c2 : Try.prog.cellsOf 35 = 1 := by kernel_rfl
set_option maxRecDepth 100000 in
theorem phDeed_of {H : Type} {enc : TypeId × Value → H} {W : World} {fuel : Nat} {cs : List Value} {x : DataW H × List MemPlace} (h : DataW.trod enc Try.prog W 0 (fun _ => true) true fuel 37 cs = some x) : ∃ d : PDeed, cs = d.cells ∧ d.ok := by
  have ht := TI.u (P := Try.prog) (t := 37)
  obtain ⟨y0, y1, y2, y3, n, _, hl, h0, h1, h2, h3⟩ := Go.Joins.trod_struct4 ht h
  rw [phDeed_cells] at hl
  match cs, hl with
  | [c0, c1, c2, c3], _ =>
    simp only [phDeed_c0, phDeed_c2, List.drop_zero, List.drop_succ_cons, List.take_succ_cons, List.take_zero] at h0 h1 h2 h3
    obtain ⟨a, e0, _, w0⟩ := DataW.trod_int (TI.u (P := Try.prog) (t := 3)) h0
    obtain ⟨b, e1, _, w1⟩ := DataW.trod_int (TI.u (P := Try.prog) (t := 3)) h1
    obtain ⟨c, e2, _, w2⟩ := DataW.trod_int (TI.u (P := Try.prog) (t := 35)) h2
    obtain ⟨d, e3, _, w3⟩ := DataW.trod_int (TI.u (P := Try.prog) (t := 35)) h3
    simp only [List.cons.injEq, and_true] at e0 e1 e2 e3
    subst e0; subst e1; subst e2; subst e3
    have r2 := bounds_u64 w2
    have r3 := bounds_u64 w3
    exact ⟨⟨a, b, c, d⟩, rfl, by show 0 ≤ c ∧ 0 ≤ d; omega⟩
set_option maxRecDepth 100000 in
theorem phDeeds_open {H : Type} {enc : TypeId × Value → H} {W : World} {r : Reach} {b0 : Nat} {v : Value} {d : DataW H} {ps : List MemPlace} (hval : Value.okWide Try.prog W r b0 22 v) (hd : DataW.Trod enc Try.prog W 0 (fun _ => true) true 22 v d ps) :
    ∃ ds : List PDeed, PDeedsAt v ds (allOf W) ∧ ∀ x ∈ ds, x.ok := slice_open (te := 37) phDeed_cells (by decide) (fun _ => rfl) phDeed_of hval hd
set_option maxRecDepth 100000 in
theorem phDeed_open {H : Type} {enc : TypeId × Value → H} {W : World} {r : Reach} {b0 : Nat} {v : Value} {d : DataW H} {ps : List MemPlace} (hval : Value.okWide Try.prog W r b0 37 v) (hd : DataW.Trod enc Try.prog W 0 (fun _ => true) true 37 v d ps) :
    ∃ x : PDeed, v = x.val ∧ x.ok := by
  have ht := TI.u (P := Try.prog) (t := 37)
  obtain ⟨cs, rfl, hsz⟩ := okWide_struct ht hval
  obtain ⟨fuel, hf⟩ := hd
  obtain ⟨x, hx, hok⟩ := phDeed_of hf
  refine ⟨x, ?_, hok⟩
  have : cs.toList = x.cells := hx
  rw [PDeed.val, ← this]
end Go.Proofs

/- The deeds of layer 10 among the arguments of a law. No condition. -/
import Derived.Test.YtlicnplclfclcaaRdW
namespace Go.Proofs
open Go Go.Gx Go.ChangeShapes Go.WideShapes Go.ChangeAt Go.RowKit Go.Deep

theorem rdDeed_cells : Try.prog.cellsOf 77 = 5 := by kernel_rfl
theorem rdKey_cells : Try.prog.cellsOf 60 = 3 := by kernel_rfl
theorem rdDeed_c0 : Try.prog.cellsOf 3 = 1 := by kernel_rfl
theorem rdDeed_c1 : Try.prog.cellsOf 4 = 1 := by kernel_rfl
theorem rdDeed_c2 : Try.prog.cellsOf 35 = 1 := by kernel_rfl
theorem rdDeed_c3 : Try.prog.cellsOf 5 = 1 := by kernel_rfl
set_option maxRecDepth 100000 in
theorem rdKey_of {H : Type} {enc : TypeId × Value → H} {W : World} {fuel : Nat} {cs : List Value} {x : DataW H × List MemPlace} (h : DataW.trod enc Try.prog W 0 (fun _ => true) true fuel 60 cs = some x) : ∃ k : KKey, cs = k.cells ∧ k.ok := by
  have ht := TI.u (P := Try.prog) (t := 60)
  obtain ⟨y0, y1, y2, n, _, hl, h0, h1, h2⟩ := Go.Deep.trod_struct3 ht h
  rw [rdKey_cells] at hl
  match cs, hl with
  | [c0, c1, c2], _ =>
    simp only [rdDeed_c1, rdDeed_c2, rdDeed_c3, List.drop_zero, List.drop_succ_cons, List.take_succ_cons, List.take_zero] at h0 h1 h2
    obtain ⟨a, e0, _⟩ := DataW.trod_bool (TI.u (P := Try.prog) (t := 4)) h0
    obtain ⟨b, e1, _, w1⟩ := DataW.trod_int (TI.u (P := Try.prog) (t := 35)) h1
    obtain ⟨c, e2, _, w2⟩ := DataW.trod_int (TI.u (P := Try.prog) (t := 5)) h2
    simp only [List.cons.injEq, and_true] at e0 e1 e2
    subst e0; subst e1; subst e2
    have r1 := bounds_u64 w1
    have r2 := bounds_u8 w2
    exact ⟨⟨a, b, c⟩, rfl, by show (0 ≤ b ∧ b ≤ 18446744073709551615) ∧ 0 ≤ c ∧ c ≤ 255; omega⟩
set_option maxRecDepth 100000 in
theorem rdDeed_of {H : Type} {enc : TypeId × Value → H} {W : World} {fuel : Nat} {cs : List Value} {x : DataW H × List MemPlace} (h : DataW.trod enc Try.prog W 0 (fun _ => true) true fuel 77 cs = some x) : ∃ d : RDeed, cs = d.cells ∧ d.ok := by
  have ht := TI.u (P := Try.prog) (t := 77)
  obtain ⟨y0, y1, y2, n, _, hl, h0, h1, h2⟩ := Go.Deep.trod_struct3 ht h
  rw [rdDeed_cells] at hl
  match cs, hl with
  | [c0, c1, c2, c3, c4], _ =>
    simp only [rdDeed_c0, rdKey_cells, List.drop_zero, List.drop_succ_cons, List.take_succ_cons, List.take_zero] at h0 h1 h2
    obtain ⟨a, e0, _, w0⟩ := DataW.trod_int (TI.u (P := Try.prog) (t := 3)) h0
    obtain ⟨b, e1, _, w1⟩ := DataW.trod_int (TI.u (P := Try.prog) (t := 3)) h1
    obtain ⟨k, e2, hk⟩ := rdKey_of h2
    simp only [List.cons.injEq, and_true] at e0 e1
    obtain ⟨ke, kd, kv⟩ := k
    simp only [KKey.cells, List.cons.injEq, and_true] at e2
    obtain ⟨g0, g1, g2⟩ := e2
    subst e0; subst e1; subst g0; subst g1; subst g2
    exact ⟨⟨a, b, ⟨ke, kd, kv⟩⟩, rfl, hk⟩
set_option maxRecDepth 100000 in
theorem rdDeeds_open {H : Type} {enc : TypeId × Value → H} {W : World} {r : Reach} {b0 : Nat} {v : Value} {d : DataW H} {ps : List MemPlace} (hval : Value.okWide Try.prog W r b0 52 v) (hd : DataW.Trod enc Try.prog W 0 (fun _ => true) true 52 v d ps) :
    ∃ ds : List RDeed, RDeedsAt v ds (allOf W) ∧ ∀ x ∈ ds, x.ok := slice_open (te := 77) rdDeed_cells (by decide) (fun _ => rfl) rdDeed_of hval hd
set_option maxRecDepth 100000 in
theorem rdDeed_open {H : Type} {enc : TypeId × Value → H} {W : World} {r : Reach} {b0 : Nat} {v : Value} {d : DataW H} {ps : List MemPlace} (hval : Value.okWide Try.prog W r b0 77 v) (hd : DataW.Trod enc Try.prog W 0 (fun _ => true) true 77 v d ps) :
    ∃ x : RDeed, v = x.val ∧ x.ok := by
  have ht := TI.u (P := Try.prog) (t := 77)
  obtain ⟨cs, rfl, hsz⟩ := okWide_struct ht hval
  obtain ⟨fuel, hf⟩ := hd
  obtain ⟨x, hx, hok⟩ := rdDeed_of hf
  refine ⟨x, ?_, hok⟩
  have : cs.toList = x.cells := hx
  rw [RDeed.val, ← this]
end Go.Proofs

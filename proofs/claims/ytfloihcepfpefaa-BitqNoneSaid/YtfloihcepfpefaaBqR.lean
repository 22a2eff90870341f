/- The deeds of layer 2 among the arguments of a law, and two closed facts of the program. No condition. -/
import Derived.Test.YtfloihcepfpefaaChecked
import Derived.Test.YtfloihcepfpefaaBqW
namespace Go.Proofs
open Go Go.Gx Go.ChangeShapes Go.WideShapes Go.ChangeAt Go.RowKit Go.Deep

theorem own_knob : ownKnob Try.prog.godebug = none := by kernel_rfl
theorem laid_out : laidOutB Try.prog = true := by kernel_rfl

theorem deed_cells : Try.prog.cellsOf 37 = 3 := by kernel_rfl
theorem deed_c0 : Try.prog.cellsOf 3 = 1 := by kernel_rfl
theorem deed_c2 : Try.prog.cellsOf 5 = 1 := by kernel_rfl
theorem deed_of {H : Type} {enc : TypeId × Value → H} {W : World} {fuel : Nat} {cs : List Value} {x : DataW H × List MemPlace} (h : DataW.trod enc Try.prog W 0 (fun _ => true) true fuel 37 cs = some x) : ∃ d : Deed, cs = d.cells ∧ d.ok := by
  have ht := TI.u (P := Try.prog) (t := 37)
  obtain ⟨y0, y1, y2, n, _, hl, h0, h1, h2⟩ := trod_struct3 ht h
  rw [deed_cells] at hl
  match cs, hl with
  | [c0, c1, c2], _ =>
    simp only [deed_c0, deed_c2, List.drop_zero, List.drop_succ_cons, List.take_succ_cons, List.take_zero] at h0 h1 h2
    obtain ⟨a, e0, _, w0⟩ := DataW.trod_int (TI.u (P := Try.prog) (t := 3)) h0
    obtain ⟨b, e1, _, w1⟩ := DataW.trod_int (TI.u (P := Try.prog) (t := 3)) h1
    obtain ⟨c, e2, _, w2⟩ := DataW.trod_int (TI.u (P := Try.prog) (t := 5)) h2
    simp only [List.cons.injEq, and_true] at e0 e1 e2
    subst e0; subst e1; subst e2
    exact ⟨⟨a, b, c⟩, rfl, bounds_u8 w2⟩

/-- A slice of deeds among the arguments. -/
theorem deeds_open {H : Type} {enc : TypeId × Value → H} {W : World} {r : Reach} {b0 : Nat} {v : Value} {d : DataW H} {ps : List MemPlace} (hval : Value.okWide Try.prog W r b0 22 v) (hd : DataW.Trod enc Try.prog W 0 (fun _ => true) true 22 v d ps) :
    ∃ ds : List Deed, DeedsAt v ds (allOf W) ∧ ∀ x ∈ ds, x.ok := by
  have ht := TI.u (P := Try.prog) (t := 22)
  obtain ⟨a0, len0, cap0, rfl⟩ := okWide_slice ht hval
  obtain ⟨fuel, hf⟩ := hd
  rcases open_slice ht hf with ⟨hcs, _⟩ | ⟨a, len, cap, m, n, D, Pl, hcs, _, hle, _, hm, _, hx⟩
  · have hcs : Value.slice a0 len0 cap0 = .slice none 0 0 := by simpa [Value.cells] using hcs
    rw [hcs]
    exact ⟨[], ⟨none, 0, rfl, fun h => by simp at h⟩, by simp⟩
  · have hcs : Value.slice a0 len0 cap0 = .slice (some a) len cap := by simpa [Value.cells] using hcs
    rw [hcs]
    simp only [if_true] at hm
    subst hm
    rw [deed_cells] at hx
    obtain ⟨f, hfd⟩ := choose_lt (α := Deed) (n := len) (p := fun i x => W.cells? 0 (a.add (i * 3)) 3 = some x.cells ∧ x.ok) (fun i hi => by
      obtain ⟨cs', h1, h2⟩ := hx i (by omega)
      obtain ⟨x, rfl, hok⟩ := deed_of h2
      exact ⟨x, h1, hok⟩)
    refine ⟨(List.range len).map f, ⟨some a, m, by simp, fun h0 => ?_⟩, ?_⟩
    · simp only [List.length_map, List.length_range] at h0 ⊢
      obtain ⟨c, T, fz, ha, hb, hle2, hrow⟩ := rows_open (n := len) (sz := 3) (fun i => (f i).cells) (fun _ _ => rfl) (fun i hi => (hfd i hi).1) h0 (by decide)
      refine ⟨a.block, a.off, c, T, fz, by rw [← ha], mem_allOf.2 hb, hle2, fun i hi => ?_⟩
      rw [hrow i (by simpa using hi)]
      simp
    · intro x hx
      obtain ⟨i, hi, rfl⟩ := List.mem_map.1 hx
      exact (hfd i (List.mem_range.1 hi)).2

theorem deed_open {H : Type} {enc : TypeId × Value → H} {W : World} {r : Reach} {b0 : Nat} {v : Value} {d : DataW H} {ps : List MemPlace} (hval : Value.okWide Try.prog W r b0 37 v) (hd : DataW.Trod enc Try.prog W 0 (fun _ => true) true 37 v d ps) :
    ∃ x : Deed, v = x.val ∧ x.ok := by
  have ht := TI.u (P := Try.prog) (t := 37)
  obtain ⟨cs, rfl, hsz⟩ := okWide_struct ht hval
  obtain ⟨fuel, hf⟩ := hd
  obtain ⟨x, hx, hok⟩ := deed_of hf
  refine ⟨x, ?_, hok⟩
  have : cs.toList = x.cells := hx
  rw [Deed.val, ← this]

end Go.Proofs

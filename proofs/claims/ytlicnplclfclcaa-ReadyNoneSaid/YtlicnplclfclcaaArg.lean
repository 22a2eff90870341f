/- Slices of rows among the arguments of a law, two closed facts of the program. No condition. -/
import Derived.Test.YtlicnplclfclcaaChecked
import Derived.Test.YtlicnplclfclcaaGxT
import Derived.Test.YtlicnplclfclcaaGxL
import Derived.JoinedOf
namespace Go.Proofs
open Go Go.Gx Go.ChangeShapes Go.WideShapes Go.ChangeAt Go.RowKit Go.Deep

theorem own_knob : ownKnob Try.prog.godebug = none := by kernel_rfl
theorem laid_out : laidOutB Try.prog = true := by kernel_rfl

/-! The words in the head of the translation: read as a list of signs, not by evaluating the text. -/
theorem words_split : ∀ (w l : List Char), (w.all fun c => c != Char.ofNat 32) = true → wordsSigns (w ++ Char.ofNat 32 :: l) = w :: wordsSigns l := by
  intro w l
  induction w with
  | nil => intro _; rfl
  | cons c w ih =>
    intro h
    simp only [List.all_cons, Bool.and_eq_true, bne_iff_ne, ne_eq] at h
    have h2 := ih (by simpa using h.2)
    rw [List.cons_append, wordsSigns]
    · rw [h2]
    · intro e; exact h.1 e
def ich (l : List Nat) : List Char := l.map Char.ofNat
set_option maxRecDepth 100000 in
theorem init_str : Try.prog.initOrder = String.ofList (ich [104, 97, 114, 110, 101, 115, 115] ++ Char.ofNat 32 :: (ich [51, 101, 52, 56, 50, 57, 100, 102, 102, 48, 54, 53, 100, 99, 54, 49, 101, 99, 101, 101, 99, 52, 100, 55, 100, 54, 97, 49, 51, 98, 54, 101, 57, 53, 101, 100, 101, 97, 50, 49, 98, 49, 99, 98, 56, 98, 56, 56, 97, 50, 50, 51, 102, 52, 98, 50, 99, 100, 48, 49, 52, 53, 49, 102] ++ Char.ofNat 32 :: (ich [99, 117, 116] ++ Char.ofNat 32 :: ich [97, 116, 32, 98, 111, 97, 116, 115, 119, 97, 105, 110, 47, 98, 111, 97, 116, 115, 119, 97, 105, 110, 108, 97, 119, 48, 51, 46, 80, 104, 101, 97, 112, 68, 101, 108, 101, 116, 101, 115, 32, 98, 111, 97, 116, 115, 119, 97, 105, 110, 47, 98, 111, 97, 116, 115, 119, 97, 105, 110, 108, 97, 119, 48, 51, 46, 80, 104, 101, 97, 112, 80, 117, 116, 115, 32, 98, 111, 97, 116, 115, 119, 97, 105, 110, 47, 98, 111, 97, 116, 115, 119, 97, 105, 110, 108, 97, 119, 48, 51, 46, 80, 104, 101, 97, 112, 80, 108, 97, 121, 115, 32, 98, 111, 97, 116, 115, 119, 97, 105, 110, 47, 98, 111, 97, 116, 115, 119, 97, 105, 110, 108, 97, 119, 48, 51, 46, 80, 104, 101, 97, 112, 82, 105, 115, 101, 115, 32, 98, 111, 97, 116, 115, 119, 97, 105, 110, 47, 98, 111, 97, 116, 115, 119, 97, 105, 110, 108, 97, 119, 48, 51, 46, 80, 104, 101, 97, 112, 67, 104, 97, 110, 103, 101, 115, 32, 98, 111, 97, 116, 115, 119, 97, 105, 110, 47, 98, 111, 97, 116, 115, 119, 97, 105, 110, 108, 97, 119, 48, 51, 46, 80, 104, 101, 97, 112, 70, 111, 114, 107, 115, 32, 98, 111, 97, 116, 115, 119, 97, 105, 110, 47, 98, 111, 97, 116, 115, 119, 97, 105, 110, 108, 97, 119, 48, 51, 46, 80, 104, 101, 97, 112, 78, 111, 110, 101, 32, 98, 111, 97, 116, 115, 119, 97, 105, 110, 47, 98, 111, 97, 116, 115, 119, 97, 105, 110, 108, 97, 119, 49, 48, 46, 82, 101, 97, 100, 121, 80, 108, 97, 121, 115, 32, 98, 111, 97, 116, 115, 119, 97, 105, 110, 47, 98, 111, 97, 116, 115, 119, 97, 105, 110, 108, 97, 119, 49, 48, 46, 82, 101, 97, 100, 121, 70, 97, 108, 108, 115, 32, 98, 111, 97, 116, 115, 119, 97, 105, 110, 47, 98, 111, 97, 116, 115, 119, 97, 105, 110, 116, 111, 112, 46, 84, 111, 112, 83, 116, 101, 97, 108, 115, 32, 98, 111, 97, 116, 115, 119, 97, 105, 110, 47, 98, 111, 97, 116, 115, 119, 97, 105, 110, 108, 97, 119, 49, 48, 46, 82, 101, 97, 100, 121, 67, 104, 97, 110, 103, 101, 115, 32, 98, 111, 97, 116, 115, 119, 97, 105, 110, 47, 98, 111, 97, 116, 115, 119, 97, 105, 110, 108, 97, 119, 49, 48, 46, 82, 101, 97, 100, 121, 70, 117, 108, 108, 32, 98, 111, 97, 116, 115, 119, 97, 105, 110, 47, 98, 111, 97, 116, 115, 119, 97, 105, 110, 108, 97, 119, 49, 48, 46, 82, 101, 97, 100, 121, 80, 117, 116, 115, 32, 98, 111, 97, 116, 115, 119, 97, 105, 110, 47, 98, 111, 97, 116, 115, 119, 97, 105, 110, 108, 97, 119, 49, 48, 46, 82, 101, 97, 100, 121, 70, 111, 114, 107, 115, 32, 98, 111, 97, 116, 115, 119, 97, 105, 110, 47, 98, 111, 97, 116, 115, 119, 97, 105, 110, 108, 97, 119, 49, 48, 46, 82, 101, 97, 100, 121, 78, 111, 110, 101, 32, 98, 111, 97, 116, 115, 119, 97, 105, 110, 47, 98, 111, 97, 116, 115, 119, 97, 105, 110, 108, 97, 119, 49, 49, 46, 80, 114, 111, 99, 115, 68, 114, 97, 119, 115, 32, 98, 111, 97, 116, 115, 119, 97, 105, 110, 47, 98, 111, 97, 116, 115, 119, 97, 105, 110, 108, 97, 119, 49, 49, 46, 80, 114, 111, 99, 115, 84, 97, 107, 101, 115, 32, 98, 111, 97, 116, 115, 119, 97, 105, 110, 47, 98, 111, 97, 116, 115, 119, 97, 105, 110, 116, 111, 112, 46, 84, 111, 112, 65, 103, 101, 115, 32, 98, 111, 97, 116, 115, 119, 97, 105, 110, 47, 98, 111, 97, 116, 115, 119, 97, 105, 110, 108, 97, 119, 49, 49, 46, 80, 114, 111, 99, 115, 66, 101, 115, 116, 32, 98, 111, 97, 116, 115, 119, 97, 105, 110, 47, 98, 111, 97, 116, 115, 119, 97, 105, 110, 108, 97, 119, 49, 49, 46, 80, 114, 111, 99, 115, 82, 111, 111, 109, 32, 98, 111, 97, 116, 115, 119, 97, 105, 110, 47, 98, 111, 97, 116, 115, 119, 97, 105, 110, 108, 97, 119, 49, 49, 46, 80, 114, 111, 99, 115, 80, 108, 97, 121, 115, 32, 98, 111, 97, 116, 115, 119, 97, 105, 110, 47, 98, 111, 97, 116, 115, 119, 97, 105, 110, 108, 97, 119, 49, 49, 46, 80, 114, 111, 99, 115, 79, 110, 101, 32, 98, 111, 97, 116, 115, 119, 97, 105, 110, 47, 98, 111, 97, 116, 115, 119, 97, 105, 110, 108, 97, 119, 49, 49, 46, 80, 114, 111, 99, 115, 67, 104, 97, 110, 103, 101, 115, 32, 98, 111, 97, 116, 115, 119, 97, 105, 110, 47, 98, 111, 97, 116, 115, 119, 97, 105, 110, 108, 97, 119, 49, 49, 46, 80, 114, 111, 99, 115, 70, 111, 114, 107, 115, 32, 98, 111, 97, 116, 115, 119, 97, 105, 110, 47, 98, 111, 97, 116, 115, 119, 97, 105, 110, 108, 97, 119, 49, 49, 46, 80, 114, 111, 99, 115, 78, 111, 110, 101]))) := by kernel_rfl
theorem behind_of {h s : List Char} {r : List (List Char)} (h1 : ((h == "harness".toList || h == "ownmain".toList) && isSumSigns s) = true) : behindMainWord (h :: s :: r) = r := if_pos h1
set_option maxRecDepth 100000 in
theorem main_words : ∃ rest, behindMainWord (wordsSigns Try.prog.initOrder.toList) = "cut".toList :: rest := by
  rw [init_str, String.toList_ofList, words_split _ _ (by decide +kernel), words_split _ _ (by decide +kernel), words_split _ _ (by decide +kernel)]
  exact ⟨_, behind_of (by decide +kernel)⟩
theorem make_of {P : Program} {rest : List (List Char)} (h : behindMainWord (wordsSigns P.initOrder.toList) = "cut".toList :: rest) : P.make = some .cut := by
  unfold Program.make
  rw [h]
  rfl
theorem final_of {P : Program} {rest : List (List Char)} (h : behindMainWord (wordsSigns P.initOrder.toList) = "cut".toList :: rest) : P.liftsFinal = false := by
  unfold Program.liftsFinal Program.headLifts
  rw [h]
  rfl
theorem enter_of {P : Program} {rest : List (List Char)} (h : behindMainWord (wordsSigns P.initOrder.toList) = "cut".toList :: rest) (h1 : P.laysLater = false) (h2 : P.bearsReflect = false) (h3 : P.doorFits [] = true) : P.mayEnter = true := by
  unfold Program.mayEnter
  rw [h]
  have e : stripLifts liftWords ("cut".toList :: rest) = ([], "cut".toList :: rest) := rfl
  simp only [e, h1, h2, h3]
  rfl
theorem may_enter : Try.prog.mayEnter = true := by
  obtain ⟨rest, h⟩ := main_words
  exact enter_of h (by kernel_rfl) (by kernel_rfl) (by kernel_rfl)
theorem lifts_final : Try.prog.liftsFinal = false := by
  obtain ⟨rest, h⟩ := main_words
  exact final_of h
theorem make_is : Try.prog.make = some .cut := by
  obtain ⟨rest, h⟩ := main_words
  exact make_of h

/-- A slice of rows that came in: the block that it lies in. -/
def RowsAt {α : Type} (f : α → List Value) (sz : Nat) (v : Value) (ds : List α) (F0 : Frag) : Prop := ∃ pa cap, v = .slice pa ds.length cap ∧ (0 < ds.length → ∃ b off c T fz, pa = some ⟨b, off, none⟩ ∧ (b, .cells c T fz) ∈ F0 ∧ off + ds.length * sz ≤ c.size ∧ ∀ (i : Nat) (hi : i < ds.length), c.extract (off + i * sz) (off + i * sz + sz) = (f ds[i]).toArray)

set_option maxRecDepth 100000 in
theorem slice_open {α : Type} [Inhabited α] {f : α → List Value} {sz : Nat} {ok : α → Prop} {H : Type} {enc : TypeId × Value → H} {W : World} {r : Reach} {b0 : Nat} {v : Value} {d : DataW H} {ps : List MemPlace} {ts te n : Nat} [ht : TI Try.prog ts (.slice te) n] (hc : Try.prog.cellsOf te = sz) (h0 : 0 < sz) (hlen : ∀ x, (f x).length = sz)
    (hof : ∀ {fuel : Nat} {cs : List Value} {x : DataW H × List MemPlace}, DataW.trod enc Try.prog W 0 (fun _ => true) true fuel te cs = some x → ∃ d : α, cs = f d ∧ ok d)
    (hval : Value.okWide Try.prog W r b0 ts v) (hd : DataW.Trod enc Try.prog W 0 (fun _ => true) true ts v d ps) : ∃ ds : List α, RowsAt f sz v ds (allOf W) ∧ ∀ x ∈ ds, ok x := by
  have ht := ht.u
  obtain ⟨a0, len0, cap0, rfl⟩ := okWide_slice ht hval
  obtain ⟨fuel, hf⟩ := hd
  rcases open_slice ht hf with ⟨hcs, _⟩ | ⟨a, len, cap, m, n, D, Pl, hcs, _, hle, _, hm, _, hx⟩
  · have hcs : Value.slice a0 len0 cap0 = .slice none 0 0 := by simpa [Value.cells] using hcs
    rw [hcs]
    exact ⟨[], ⟨none, 0, rfl, fun h => by simp at h⟩, by simp⟩
  · have hcs : Value.slice a0 len0 cap0 = .slice (some a) len cap := by simpa [Value.cells] using hcs
    rw [hcs]
    simp only [if_true] at hm
    subst hm
    rw [hc] at hx
    obtain ⟨g, hfd⟩ := choose_lt (α := α) (n := len) (p := fun i x => W.cells? 0 (a.add (i * sz)) sz = some (f x) ∧ ok x) (fun i hi => by
      obtain ⟨cs', h1, h2⟩ := hx i (by omega)
      obtain ⟨x, rfl, hok⟩ := hof h2
      exact ⟨x, h1, hok⟩)
    refine ⟨(List.range len).map g, ⟨some a, m, by simp, fun h0' => ?_⟩, ?_⟩
    · simp only [List.length_map, List.length_range] at h0' ⊢
      obtain ⟨c, T, fz, ha, hb, hle2, hrow⟩ := rows_open (n := len) (sz := sz) (fun i => f (g i)) (fun _ _ => hlen _) (fun i hi => (hfd i hi).1) h0' h0
      refine ⟨a.block, a.off, c, T, fz, by rw [← ha], mem_allOf.2 hb, hle2, fun i hi => ?_⟩
      rw [hrow i (by simpa using hi)]
      simp
    · intro x hx
      obtain ⟨i, hi, rfl⟩ := List.mem_map.1 hx
      exact (hfd i (List.mem_range.1 hi)).2
end Go.Proofs

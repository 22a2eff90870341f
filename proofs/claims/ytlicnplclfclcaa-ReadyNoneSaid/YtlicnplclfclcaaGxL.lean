/- From a contract to a law's row: the whole memory as one piece that stays; every argument reads behind the call as before. No condition; nothing of any program stands here. -/
import Derived.Test.YtlicnplclfclcaaGxE
import Derived.ProofKit
import Derived.Deep.Strs
import Derived.Lib.SmallJoins
import Derived.OpenShut
namespace Go.Gx
open Go Go.ChangeShapes Go.WideShapes Go.ChangeAt Go.RowKit

/-- A piece that is just these blocks. -/
def pin (F0 : Frag) : HP := fun F => F = F0
theorem Sat.pinned {oo w : World} {L : List HP} {F0 : Frag} (h : Sat oo w L) (k : Nat) (hk : L[k]? = some (pin F0)) {b : Nat} {o : Obj} (hm : (b, o) ∈ F0) : w.heap[b]? = some o := by
  obtain ⟨F, hF, hl⟩ := h
  have hlt : k < L.length := (List.getElem?_eq_some_iff.1 hk).1
  have h1 : F k = F0 := hF k _ hk
  exact hl.lies k hlt (b, o) (by rw [h1]; exact hm)
theorem Sat.atPin {oo w : World} {L : List HP} {F0 : Frag} (h : Sat oo w L) (k : Nat) (hk : L[k]? = some (pin F0)) {b : Nat} {o : Obj} (hm : (b, o) ∈ F0) : ∀ w' : World, w'.heap = w.heap → w'.heap[b]? = some o := fun _ e => by rw [e]; exact h.pinned k hk hm

/-- All blocks of a world. -/
def allOf (W : World) : Frag := (List.range W.heap.size).map fun k => (k, (W.heap[k]?).getD (.cells #[] 0 (0, 0)))
theorem mem_allOf {W : World} {b : Nat} {o : Obj} : (b, o) ∈ allOf W ↔ W.heap[b]? = some o := by
  unfold allOf
  rw [List.mem_map]
  constructor
  · rintro ⟨k, hk, h⟩
    have hlt : k < W.heap.size := List.mem_range.1 hk
    simp only [Prod.mk.injEq, Array.getElem?_eq_getElem hlt, Option.getD_some] at h
    obtain ⟨rfl, rfl⟩ := h
    exact Array.getElem?_eq_getElem hlt
  · intro h
    have hlt : b < W.heap.size := (Array.getElem?_eq_some_iff.1 h).1
    exact ⟨b, by simpa using hlt, by rw [h]; rfl⟩
theorem allOf_nodup (W : World) : ((allOf W).map (·.1)).Nodup := by
  unfold allOf
  rw [List.map_map]
  have : (List.range W.heap.size).map ((fun x : Nat × Obj => x.1) ∘ fun k => (k, (W.heap[k]?).getD (.cells #[] 0 (0, 0)))) = List.range W.heap.size := by
    conv => rhs; rw [← List.map_id (List.range W.heap.size)]
    rfl
  rw [this]
  exact List.nodup_range
theorem Sat.start (W : World) : Sat W W [pin (allOf W), emp] := by
  refine ⟨fun i => if i = 0 then allOf W else [], ?_, ?_, ?_, ?_, rfl, rfl, rfl⟩
  · intro i p hp
    match i with
    | 0 => simp at hp; subst hp; rfl
    | 1 => simp at hp; subst hp; rfl
    | i + 2 => simp at hp
  · intro i _
    by_cases h : i = 0
    · simp only [h, if_true]; exact allOf_nodup W
    · simp [h]
  · intro i j _ _ hij b hb
    by_cases h : i = 0
    · have hj : ¬ j = 0 := by omega
      simp [hj]
    · simp [h] at hb
  · intro i _ x hx
    by_cases h : i = 0
    · simp only [h, if_true] at hx
      exact mem_allOf.1 hx
    · simp [h] at hx
theorem Sat.below {W W' : World} {L : List HP} (h : Sat W W' L) (k : Nat) (hk : L[k]? = some (pin (allOf W))) : Below W.heap.size W W' := by
  have hb : ∀ b, b < W.heap.size → W'.heap[b]? = W.heap[b]? := fun b hb => by
    have h1 : W.heap[b]? = some W.heap[b] := Array.getElem?_eq_getElem hb
    rw [h1]; exact h.pinned k hk (mem_allOf.2 h1)
  obtain ⟨F, hF, hl⟩ := h
  refine ⟨hl.outs.1, hl.outs.2.1, hl.outs.2.2, ?_, hb⟩
  rcases Nat.eq_zero_or_pos W.heap.size with h0 | h0
  · omega
  · have := hb (W.heap.size - 1) (by omega)
    have h1 : W.heap[W.heap.size - 1]? = some W.heap[W.heap.size - 1] := Array.getElem?_eq_getElem (by omega)
    rw [h1] at this
    have := (Array.getElem?_eq_some_iff.1 this).1
    omega

/-- A law's contract as a fact of its calls. -/
theorem Ct.law {P : Program} {f : FuncId} {args : Array Value} {W : World} (h : Ct P f args [pin (allOf W)] (fun v ps => v = .bool true ∧ ps = [pin (allOf W)])) :
    Calls P f args W fun e W' => e = .returned (.bool true) ∧ Below W.heap.size W W' :=
  (h W W emp (Sat.start W)).mono fun e W' ⟨v, ps, he, ⟨hv, hp⟩, hS⟩ => by
    subst he; subst hv; subst hp
    exact ⟨rfl, hS.below 0 rfl⟩

section
variable {H : Type} {enc : TypeId × Value → H} {P : Program}

theorem trodAll_stays (hl : laidOutB P = true) {W W' : World} (hb : Below W.heap.size W W') {sp : Nat → Bool} : ∀ (ts : List TypeId) (vs : List Value) (ds : List (DataW H)) (ps : List MemPlace),
    (∀ t ∈ ts, P.readableRec t = true ∧ t < P.types.size) → (∀ x ∈ ps, x.block < W.heap.size) → (∀ x ∈ ps, sp x.block = true) →
    DataW.TrodAll enc P W 0 (fun _ => true) true ts vs ds ps → DataW.TrodAll enc P W' 0 sp true ts vs ds ps
  | [], _, _, _, _, _, _, h => by
    obtain ⟨rfl, rfl, rfl⟩ := trodAll_nil h
    exact trodAll_mk0
  | t :: ts, _, _, _, ht, hlt, hsp, h => by
    obtain ⟨v, vs, d, ds, p, q, rfl, rfl, rfl, h1, h2⟩ := trodAll_cons h
    refine trodAll_cons_mk ?_ (trodAll_stays hl hb ts vs ds q (fun u hu => ht u (by simp [hu])) (fun x hx => hlt x (by simp [hx])) (fun x hx => hsp x (by simp [hx])) h2)
    exact WideElems.Trod_stays hl (ht t (by simp)).1 (ht t (by simp)).2 h1 (fun x hx => hb.same (hlt x (by simp [hx]))) (fun x hx => hsp x (by simp [hx]))

/-- What a law's row asks behind the call. -/
theorem law_post {f : Func} {s : ChangeSpec} {W W' : World} {args : Array Value} {ds gs : List (DataW H)} {before : List MemPlace} {tb : TypeId} {apart fresh handsOn : Bool} (hl : laidOutB P = true) (hr : ∀ t ∈ f.params.toList, P.readableRec t = true ∧ t < P.types.size)
    (hW : DataW.Whole enc P f.params.toList s.vars apart W args.toList ds gs before) (hvars : s.vars = []) (hb : Below W.heap.size W W') (hres : f.resultTypes = #[tb]) (htb : P.underlying tb = some .bool)
    (h1 : (s.fn H (ds ++ gs)).results = [.lit (.bool true)]) (h2 : (s.fn H (ds ++ gs)).args = ds) (h3 : (s.fn H (ds ++ gs)).vars = []) : s.post enc P f apart fresh handsOn false W args (.bool true) W' := by
  have hlt := hW.lt
  have hW' := hW
  obtain ⟨p, q, hA, hV, rfl, hfz, hnd⟩ := hW
  have hV' : q = [] := by
    rw [hvars] at hV
    cases gs with
    | nil => exact hV
    | cons g gs => exact hV.elim
  subst hV'
  refine ⟨ds, gs, p ++ [], [], p, [], hW', ?_, ?_, ?_, hb.frame _, fun h => by cases h⟩
  · rw [h1, hres]
    exact trodAll_mk1 ⟨1, by simp [DataW.trod, htb, Value.cells]⟩
  · rw [h2]
    exact trodAll_stays hl hb _ _ _ _ hr (fun x hx => hlt x (by simp [hx])) (fun x hx => by simpa using hlt x (by simp [hx])) hA
  · rw [h3, hvars]
    rfl
end

theorem cell_block {W : World} {a : Addr} {v : Value} (h : W.cell? a = some v) : ∃ c T fz, a.spot = none ∧ W.heap[a.block]? = some (.cells c T fz) ∧ c[a.off]? = some v := by
  unfold World.cell? at h
  split at h
  · rename_i c T fz hb
    split at h
    · cases h
    · rename_i hs
      exact ⟨c, T, fz, by simpa using hs, hb, h⟩
  · cases h
theorem add_spot (a : Addr) (k : Nat) : (a.add k).block = a.block ∧ (a.add k).off = a.off + k := by
  unfold Addr.add
  split
  · rename_i h; subst h; exact ⟨rfl, rfl⟩
  · exact ⟨rfl, rfl⟩

/-- The rows of a slice, read cell by cell, in its block. -/
theorem rows_open {W : World} {a : Addr} {n sz : Nat} (rows : Nat → List Value) (hlen : ∀ i, i < n → (rows i).length = sz) (h : ∀ i, i < n → W.cells? 0 (a.add (i * sz)) sz = some (rows i)) (h0 : 0 < n) (hsz : 0 < sz) :
    ∃ c T fz, a = ⟨a.block, a.off, none⟩ ∧ W.heap[a.block]? = some (.cells c T fz) ∧ a.off + n * sz ≤ c.size ∧ ∀ i, i < n → c.extract (a.off + i * sz) (a.off + i * sz + sz) = (rows i).toArray := by
  have hcell : ∀ i, i < n → ∀ j, j < sz → ∃ c T fz, ((a.add (i * sz)).add j).spot = none ∧ W.heap[a.block]? = some (.cells c T fz) ∧ c[a.off + i * sz + j]? = (rows i)[j]? := fun i hi j hj => by
    obtain ⟨_, _, hc⟩ := World.cells?_some (h i hi)
    have hj' : j < (rows i).length := by rw [hlen i hi]; exact hj
    have h1 := hc j hj
    rw [List.getElem?_eq_getElem hj'] at h1
    obtain ⟨c, T, fz, hs, hb, hv⟩ := cell_block h1
    obtain ⟨e1, e2⟩ := add_spot (a.add (i * sz)) j
    obtain ⟨g1, g2⟩ := add_spot a (i * sz)
    rw [e1, g1] at hb
    rw [e2, g2] at hv
    exact ⟨c, T, fz, hs, hb, by rw [hv, List.getElem?_eq_getElem hj']⟩
  obtain ⟨c, T, fz, hsp, hb, _⟩ := hcell 0 h0 0 hsz
  have hsp : a.spot = none := by simpa [Addr.add] using hsp
  have hget : ∀ i, i < n → ∀ j, j < sz → c[a.off + i * sz + j]? = (rows i)[j]? := fun i hi j hj => by
    obtain ⟨c', T', fz', _, hb', hv⟩ := hcell i hi j hj
    rw [hb] at hb'
    cases hb'
    exact hv
  have hle : a.off + n * sz ≤ c.size := by
    have hj' : sz - 1 < (rows (n - 1)).length := by rw [hlen _ (by omega)]; omega
    have := hget (n - 1) (by omega) (sz - 1) (by omega)
    rw [List.getElem?_eq_getElem hj'] at this
    have h2 := (Array.getElem?_eq_some_iff.1 this).1
    have h3 : (n - 1) * sz + sz = n * sz := by
      rw [← Nat.succ_mul]; congr 1; omega
    omega
  refine ⟨c, T, fz, ?_, hb, hle, fun i hi => ?_⟩
  · cases a; simp at hsp; subst hsp; rfl
  · have h3 : i * sz + sz ≤ n * sz := by
      rw [← Nat.succ_mul]; exact Nat.mul_le_mul_right _ hi
    apply Array.ext'
    apply List.ext_getElem?
    intro j
    simp only [Array.toList_extract, List.extract_eq_take_drop]
    rw [List.getElem?_take, List.getElem?_drop, show a.off + i * sz + sz - (a.off + i * sz) = sz by omega]
    by_cases hj : j < sz
    · rw [if_pos hj, Array.getElem?_toList]; exact hget i hi j hj
    · rw [if_neg hj, List.getElem?_eq_none (by rw [hlen i hi]; omega)]

end Go.Gx

/- Slices that a function owns: building, making, appending, reading and writing their rows; building structs. No condition; nothing of any program stands here. -/
import Derived.Test.YtlicnplclfclcaaGxC
namespace Go.Gx
open Go
variable {oo : World}

/-- The slice v of n elements, of sz cells each, owns the cells cs (spare ones behind them). -/
def own (v : Value) (T sz n : Nat) (cs : List Value) : HP := fun F =>
  (v = .slice none 0 0 ∧ n = 0 ∧ cs = [] ∧ F = []) ∨
  ∃ b cap c, v = .slice (some ⟨b, 0, none⟩) n cap ∧ F = [(b, .cells c T (0, 0))] ∧ c.size = cap * sz ∧ n ≤ cap ∧ cs.length = n * sz ∧ c.toList.take (n * sz) = cs

class TF (P : Program) (t : Nat) (pl : outParam (Array (Nat × Nat))) : Prop where
  pl : ∃ fs, P.underlying t = some (.struct fs) ∧ ∀ w, (fs.mapM (m := Sem) fun f => do pure (f.offset, ← sizeOf f.type)).run P w = .ok pl w

section
variable {P : Program} {N : Nat} {D : List Deferred} {S : World → Prop} {E : Env} {w : World} {dst : Option Nat} {ty : TypeId} {pos : String} {af : Array Edge} {g : Option (Nat × Bool)} {L : List HP}

def parts (E : Env) : List (Nat × Operand) → Option (List (Nat × Value))
  | [] => some []
  | (i, x) :: l => match ev E x, parts E l with
    | some v, some vs => some ((i, v) :: vs)
    | _, _ => none

theorem parts_map {a : Act} (ha : Knows a E) : ∀ (l : List (Nat × Operand)) (vs : List (Nat × Value)), parts E l = some vs → l.map (fun p => (p.1, a.eval p.2)) = vs := by
  intro l
  induction l with
  | nil => intro vs h; simp [parts] at h; subst h; rfl
  | cons p l ih =>
    obtain ⟨i, x⟩ := p
    intro vs h
    simp only [parts] at h
    cases hx : ev E x with
    | none => rw [hx] at h; simp at h
    | some v =>
      cases hl : parts E l with
      | none => rw [hx, hl] at h; simp at h
      | some us =>
        rw [hx, hl] at h
        simp only [Option.some.injEq] at h
        subst h
        simp [ha.ev hx, ih us hl]

theorem Qt.bld {t : Nat} {ps : Array (Nat × Operand)} {vs : List (Nat × Value)} {z : Value} {pl : Array (Nat × Nat)} {cs : Array Value} [hz : TZ P t z] [hp : TF P t pl] (hv : parts E ps.toList = some vs)
    (hc : Instr.fill (pl[·]?) z.cells vs = some cs) : Qt P S E ⟨dst, .build t ps, ty, pos, af, g⟩ (.agg cs) := fun a ha w _ => by
  obtain ⟨fs, hu, hpl⟩ := hp.pl
  have hund : (underlying t).run P w = .ok (.struct fs) w := by simp [underlying, program, Sem.run, hu, pure, bind, Sem.bind]
  have hmap : List.map (fun x => (x.fst, a.eval x.snd)) ps.toList = vs := parts_map ha _ _ hv
  simp only [execOp, Instr.build, Sem.run_bind, run_zeroValue hz, Result.andThen_ok, hund]
  rw [hpl]
  simp [hmap, hc]

def force : List Value → Option (List Value)
  | [] => some []
  | v :: vs => match force vs with
    | some r => some (v :: r)
    | none => none
def allCells (E : Env) : List Operand → Option (List Value)
  | [] => some []
  | x :: xs => match ev E x, allCells E xs with
    | some v, some r => force (v.cells.toList ++ r)
    | _, _ => none
/-- A struct of which the cells are told by operands, one a field. -/
theorem Qt.bldV {t : Nat} {ps : Array (Nat × Operand)} {vs : List (Nat × Value)} {z : Value} {pl : Array (Nat × Nat)} {vals : List Value} [hz : TZ P t z] [hp : TF P t pl] (xs : List Operand) (hv : parts E ps.toList = some vs)
    (_hev : allCells E xs = some vals) (hc : Instr.fill (pl[·]?) z.cells vs = some vals.toArray) : Qt P S E ⟨dst, .build t ps, ty, pos, af, g⟩ (.agg vals.toArray) := Qt.bld hv hc

/-- An array of a struct type's kind, all zero. -/
theorem Qt.bldA {t len e n : Nat} {z : Value} [hz : TZ P t z] [ht : TI P t (.array len e) n] {ne : Nat} {de : TypeDesc} [he : TI P e de ne] : Qt P S E ⟨dst, .build t #[], ty, pos, af, g⟩ (.agg z.cells) := fun a ha w _ => by
  simp [execOp, Instr.build, run_zeroValue hz, run_underlying ht, run_sizeOf he, Instr.fill]

theorem Ef.bsl {t e n ne len : Nat} {ps : Array (Nat × Operand)} {vs : List (Nat × Value)} {z : Value} {de : TypeDesc} {cs : Array Value} (hS : Sat oo w L) [ht : TI P t (.slice e) n] [he : TI P e de ne] [hz : TZ P e z] (hv : parts E ps.toList = some vs)
    (hc : Instr.fill (fun i => some (i * ne, ne)) ((Array.range (len * ne)).map (z.cells[· % z.cells.size]!)) vs = some cs) (hne : ne ≠ 0) (hl0 : len ≠ 0) (hl : len * ne ≤ 2 ^ 24) :
    Ef P N D E w ⟨dst, .buildSlice t len ps, ty, pos, af, g⟩ (fun u w' => ∃ b, u = .slice (some ⟨b, 0, none⟩) len len ∧ Sat oo w' (pt b (.cells cs e (0, 0)) :: L)) := Ef.of_run fun a ha => by
  have hmap : List.map (fun x => (x.fst, a.eval x.snd)) ps.toList = vs := parts_map ha _ _ hv
  refine .inl ⟨.slice (some ⟨w.heap.size, 0, none⟩) len len, w.alloc (.cells cs e (0, 0)), ?_, w.heap.size, rfl, hS.new _ rfl⟩
  have h1 : ¬ (2 ^ 24 < len * ne) := by omega
  have h2 : ¬ (len = 0 ∨ ne = 0) := by omega
  have h3 : ¬ (16777216 < len * ne) := by omega
  have h4 : ¬ (len * ne = 0) := Nat.mul_ne_zero hl0 hne
  simp [execOp, Instr.buildSlice, run_underlying ht, run_sizeOf he, h3, run_zeroValue hz, h4, hmap, hc, run_newRow]

theorem map_range0 {α : Type} (f : Nat → α) : Array.map f (Array.range 0) = #[] := by apply Array.ext'; simp

/-- An empty slice literal. -/
theorem Ef.bsl0 {t e n ne : Nat} {de : TypeDesc} (hS : Sat oo w L) [ht : TI P t (.slice e) n] [he : TI P e de ne] :
    Ef P N D E w ⟨dst, .buildSlice t 0 #[], ty, pos, af, g⟩ (fun u w' => ∃ b, u = .slice (some ⟨b, 0, none⟩) 0 0 ∧ Sat oo w' (own (.slice (some ⟨b, 0, none⟩) 0 0) e ne 0 [] :: L)) := Ef.of_run fun a ha => by
  refine .inl ⟨.slice (some ⟨w.heap.size, 0, none⟩) 0 0, w.alloc (.cells #[] e (0, 0)), ?_, w.heap.size, rfl, ?_⟩
  · simp [execOp, Instr.buildSlice, run_underlying ht, run_sizeOf he, Instr.fill, run_newRow, map_range0]
  · exact (hS.new (.cells #[] e (0, 0)) rfl).imp 0 rfl fun F hF => .inr ⟨_, 0, #[], rfl, hF, by simp, by omega, by simp, by simp⟩

theorem Ef.mks {t e n ne nb : Nat} {x : Operand} {m : Int} {z : Value} {de : TypeDesc} (hS : Sat oo w L) [ht : TI P t (.slice e) n] [he : TI P e de ne] [hz : TZ P e z] [hb : TB P e nb] (hx : ev E x = some (.int .i64 m)) (h0 : 0 ≤ m) (h1 : m ≤ 2 ^ 31) (hnb : nb ≤ 1024) :
    Ef P N D E w ⟨dst, .makeSlice t x x, ty, pos, af, g⟩ (fun u w' => ∃ b, u = .slice (some ⟨b, 0, none⟩) m.toNat m.toNat ∧ Sat oo w' (pt b (.cells ((Array.range (m.toNat * ne)).map (z.cells[· % z.cells.size]!)) e (0, 0)) :: L)) := Ef.of_run fun a ha => by
  refine .inl ⟨.slice (some ⟨w.heap.size, 0, none⟩) m.toNat m.toNat, w.alloc (.cells ((Array.range (m.toNat * ne)).map (z.cells[· % z.cells.size]!)) e (0, 0)), ?_, w.heap.size, rfl, hS.new _ rfl⟩
  obtain ⟨i, hi, hib⟩ : ∃ i, P.info? e = some i ∧ i.bytes = nb := by
    have := hb.b
    cases hi : P.info? e with
    | none => rw [hi] at this; cases this
    | some i => rw [hi] at this; exact ⟨i, rfl, by simpa using this⟩
  have hw : IntKind.i64.wrap m = m := IntWalk.i64_in m (by omega)
  have hq : ¬ (281474976710656 < (i.bytes : Int) * m) := by
    have h3 : (i.bytes : Int) * m ≤ 1024 * 2 ^ 31 := by
      rw [hib]
      exact Int.mul_le_mul (by omega) h1 h0 (by omega)
    omega
  have hroom : (askRoom (m.toNat * i.bytes)).run P w = .ok () w := by
    unfold askRoom
    split <;> simp [mark, Sem.run]
  have hz' := run_zeroValue hz w
  have hneg : ¬ m < 0 := by omega
  simp only [execOp, Instr.makeSlice, Sem.run_bind, run_underlying ht, ha.ev hx, asInt, asIntOf, run_typeInfo hi, hw, Sem.run_pure, Result.andThen_ok]
  by_cases hz0 : m.toNat * ne = 0
  · have e : Array.map (z.cells[· % z.cells.size]!) (Array.range (m.toNat * ne)) = #[] := by rw [hz0]; exact map_range0 _
    rw [e]
    simp [hneg, hq, hroom, run_sizeOf he, hz0, run_newRow, map_range0]
  · simp [hneg, hq, hroom, run_sizeOf he, hz0, run_newRow, hz']

/-! ### append -/
/-- What an append takes its new elements from. -/
def Src (P : Program) (w : World) (y : Value) (sz n : Nat) (new : List Value) : Prop :=
  (∀ w', w'.heap = w.heap → (Builtin.lenOf y).run P w' = .ok n w' ∧ (Builtin.firstCells sz n y).run P w' = .ok new.toArray w') ∧ new.length = n * sz

theorem growBy_le (need : Nat) : ∀ (r c : Nat), Builtin.growBy need r c ≤ 3 ^ r * (c + 1000) := by
  intro r
  induction r with
  | zero => intro c; simp [Builtin.growBy]
  | succ r ih =>
    intro c
    unfold Builtin.growBy
    split
    · have : 1 ≤ 3 ^ (r + 1) := Nat.one_le_pow _ _ (by omega)
      calc c ≤ 1 * (c + 1000) := by omega
        _ ≤ 3 ^ (r + 1) * (c + 1000) := Nat.mul_le_mul_right _ this
    · refine Nat.le_trans (ih _) ?_
      rw [Nat.pow_succ, Nat.mul_assoc]
      exact Nat.mul_le_mul_left _ (by omega)

theorem nextcap_le {need cap : Nat} (h : cap < need) : Builtin.nextslicecap need cap ≤ 81 * (need + 1000) := by
  unfold Builtin.nextslicecap
  split
  · omega
  · split
    · omega
    · refine Nat.le_trans (growBy_le need 4 cap) ?_
      exact Nat.mul_le_mul (by decide) (by omega)

theorem cap_room (q m b : Nat) (h : q ≤ 81 * (m + 1000)) (hm : m ≤ 2147483648) (hb : b ≤ 1024) : q * b ≤ 178120966643712 := by
  have h1 : q ≤ 173946256488 := Nat.le_trans h (Nat.le_trans (Nat.mul_le_mul_left 81 (Nat.add_le_add_right hm 1000)) (Nat.le_of_ble_eq_true rfl))
  calc q * b ≤ 173946256488 * 1024 := Nat.mul_le_mul h1 hb
    _ = 178120966643712 := rfl

theorem zeroCells_size (z : Array Value) (n : Nat) : (Builtin.zeroCells z n).size = n * z.size := by simp [Builtin.zeroCells]

theorem run_appendX {e t t1 nS nS1 ne nb n n' cap b : Nat} {c : Array Value} {T : Nat} {z : Value} {de : TypeDesc} {at' : Array TypeId} {d1 : TypeDesc} {y : Value} {new cs : List Value} {s : Option Addr}
    (ht : TI P t (.slice e) nS) (he : TI P e de ne) (hz : TZ P e z) (hzs : z.cells.size = ne) (hb : TB P e nb) (hnb : nb ≤ 1024) (h0 : at'[0]? = some t) (h1 : at'[1]? = some t1) (ht1 : TI P t1 d1 nS1) (hd1 : ∀ k, d1 ≠ .int k)
    (hsrc : Src P w y ne n' new) (hneed : n + n' ≤ 2147483648) (hne : ne ≠ 0)
    (hs : (s = none ∧ n = 0 ∧ cap = 0 ∧ cs = []) ∨ (s = some ⟨b, 0, none⟩ ∧ w.heap[b]? = some (.cells c T (0, 0)) ∧ c.size = cap * ne ∧ n ≤ cap ∧ c.toList.take (n * ne) = cs ∧ cs.length = n * ne)) (hpl : new.all Value.plain = true) :
    (s = none ∧ n' = 0 ∧ (Builtin.append_ at' ty #[.slice s n cap, y]).run P w = .ok (.slice none 0 0) w) ∨
    (s = some ⟨b, 0, none⟩ ∧ n + n' ≤ cap ∧ ∃ w', (Builtin.append_ at' ty #[.slice s n cap, y]).run P w = .ok (.slice (some ⟨b, 0, none⟩) (n + n') cap) w' ∧ w'.heap[b]? = some (.cells (wr c (n * ne) new) T (0, 0)) ∧ (∀ b', b' ≠ b → w'.heap[b']? = w.heap[b']?) ∧ Outs w w') ∨
    (∃ (ncap : Nat) (r : List Value) (w1 : World), n + n' ≤ ncap ∧ (w1.heap = w.heap ∧ Outs w w1) ∧ (cs ++ new ++ r).length = ncap * ne ∧ (Builtin.append_ at' ty #[.slice s n cap, y]).run P w = .ok (.slice (some ⟨w.heap.size, 0, none⟩) (n + n') ncap) (w1.alloc (.cells (cs ++ new ++ r).toArray e (0, 0)))) := by
  obtain ⟨hs12, hs3⟩ := hsrc
  obtain ⟨hs1, hs2⟩ := hs12 w rfl
  obtain ⟨i, hi, hib⟩ : ∃ i, P.info? e = some i ∧ i.bytes = nb := by
    have := hb.b
    cases hi : P.info? e with
    | none => rw [hi] at this; cases this
    | some i => rw [hi] at this; exact ⟨i, rfl, by simpa using this⟩
  have hmat : (match d1 with | .int _ => true | _ => false) = false := by cases d1 <;> simp at hd1 ⊢
  by_cases hroom : n + n' ≤ cap
  · rcases hs with ⟨rfl, rfl, rfl, rfl⟩ | ⟨rfl, hh, hsz, hle, htk, hcl⟩
    · refine .inl ⟨rfl, by omega, ?_⟩
      have hn0 : n' = 0 := by omega
      subst hn0
      simp [Builtin.append_, h0, h1, run_underlying ht, run_underlying ht1, run_sizeOf he, hs1, hs2]
    · refine .inr (.inl ⟨rfl, hroom, ?_⟩)
      have hadd : (⟨b, 0, none⟩ : Addr).add (n * ne) = ⟨b, n * ne, none⟩ := by
        unfold Addr.add
        by_cases hz : n * ne = 0 <;> simp [hz]
      obtain ⟨w', hr, hb', hne'⟩ := run_storeCells (P := P) (b := b) (n * ne) new 0 c w hh (by rw [hs3, hsz, Nat.add_zero, ← Nat.add_mul]; exact Nat.mul_le_mul_right _ hroom) hpl
      refine ⟨w', ?_, hb', hne'⟩
      simp [Builtin.append_, h0, h1, run_underlying ht, run_underlying ht1, run_sizeOf he, hs1, hs2, hroom, hadd, hr]
  · refine .inr (.inr ?_)
    have hcn : cap < n + n' := by omega
    have hq2 : ¬ (281474976710656 < Builtin.nextslicecap (n + n') cap * i.bytes) := by
      have h1 := nextcap_le hcn
      have h2 := cap_room _ _ i.bytes h1 hneed (by omega)
      exact Nat.not_lt.2 (Nat.le_trans h2 (Nat.le_of_ble_eq_true rfl))
    have hask : ∀ (m : Nat) (w : World), (askRoom m).run P w = .ok () w := fun m w => by
      unfold askRoom
      split <;> simp [mark, Sem.run]
    let q := w.tape w.drawn (.appendCap (n + n') cap e)
    let ncap := n + n' + q % (2 ^ 63 - (n + n'))
    have hold : (Builtin.firstCells ne n (.slice s n cap)).run P w.drew = .ok cs.toArray w.drew := by
      rcases hs with ⟨rfl, rfl, rfl, rfl⟩ | ⟨rfl, hh, hsz, hle, htk, hcl⟩
      · simp [Builtin.firstCells]
      · have := run_loadCellsFrom (P := P) (w := w.drew) (b := b) hh 0 (n * ne) 0 #[] (by rw [hsz]; simpa using Nat.mul_le_mul_right ne hle)
        simp only [Nat.zero_add, Array.empty_append] at this
        simp only [Builtin.firstCells, loadCells, this]
        congr 1
        apply Array.ext'
        simp only [Array.toList_extract, List.extract_eq_drop_take', List.drop_zero]
        exact htk
    obtain ⟨_, hs2'⟩ := hs12 w.drew rfl
    refine ⟨ncap, (Builtin.zeroCells z.cells (ncap - (n + n'))).toList, w.drew, by omega, ⟨rfl, rfl, rfl, rfl⟩, ?_, ?_⟩
    · have hcl : cs.length = n * ne := by
        rcases hs with ⟨rfl, rfl, rfl, rfl⟩ | ⟨rfl, hh, hsz, hle, htk, hcl⟩
        · simp
        · exact hcl
      simp only [List.length_append, Array.length_toList, zeroCells_size, hzs, hs3, hcl]
      rw [← Nat.add_mul, ← Nat.add_mul]
      congr 1
      omega
    · have hbig : ¬ (9223372036854775807 < (n : Int) + n' ∧ i.bytes = 0) := by omega
      have hch : (Sem.choose (.appendCap (n + n') cap e) Sem.pure).run P w = .ok ncap w.drew := by
        simp only [Sem.run, Question.forced]
        rfl
      simp [Builtin.append_, h0, h1, run_underlying ht, run_underlying ht1, run_sizeOf he, hs1, hroom, run_typeInfo hi, hq2, hask, hbig, choose, hch, hold, hs2', run_zeroValue hz, run_newRow]
      congr 3
      simp

/-- The first piece in the place of the k-th of the others. -/
theorem Sat.into {p : HP} (h : Sat oo w (p :: L)) (k : Nat) : Sat oo w (L.set k p) := by
  refine h.sel ((List.range L.length).map fun i => if i = k then 0 else i + 1) ?_ ?_
  · rw [List.Nodup, List.pairwise_map]
    refine List.nodup_range.imp fun {a b} hab e => hab ?_
    by_cases ha : a = k
    · by_cases hb : b = k
      · omega
      · simp only [ha, hb, if_true, if_false] at e; omega
    · by_cases hb : b = k
      · simp only [ha, hb, if_true, if_false] at e; omega
      · simp only [ha, hb, if_false] at e; omega
  · apply List.ext_getElem
    · simp
    · intro i h1 h2
      simp only [List.length_map, List.length_range, List.length_set] at h1 h2
      simp only [List.getElem_map, List.getElem_range]
      by_cases e : i = k
      · subst e; simp
      · simp [e, List.getElem_set_ne (Ne.symm e), h1]

theorem Sat.ownPos {v : Value} {T sz n : Nat} {cs : List Value} (hS : Sat oo w L) (k : Nat) (hk : L[k]? = some (own v T sz n cs)) (hn : 0 < n) :
    ∃ b cap c, v = .slice (some ⟨b, 0, none⟩) n cap ∧ c.size = cap * sz ∧ n ≤ cap ∧ cs.length = n * sz ∧ c.toList.take (n * sz) = cs ∧ Sat oo w (L.set k (pt b (.cells c T (0, 0)))) := by
  obtain ⟨⟨b, cap, c⟩, h⟩ := hS.ex (α := Nat × Nat × Array Value) k (q := fun x F => (v = .slice (some ⟨x.1, 0, none⟩) n x.2.1 ∧ x.2.2.size = x.2.1 * sz ∧ n ≤ x.2.1 ∧ cs.length = n * sz ∧ x.2.2.toList.take (n * sz) = cs) ∧ F = [(x.1, .cells x.2.2 T (0, 0))]) hk (by
    rintro F (⟨_, h, _⟩ | ⟨b, cap, c, h1, h2, h3, h4, h5, h6⟩)
    · omega
    · exact ⟨⟨b, cap, c⟩, ⟨h1, h3, h4, h5, h6⟩, h2⟩)
  have hlt : k < L.length := (List.getElem?_eq_some_iff.1 hk).1
  have hk' : (L.set k (fun F => (v = .slice (some ⟨b, 0, none⟩) n cap ∧ c.size = cap * sz ∧ n ≤ cap ∧ cs.length = n * sz ∧ c.toList.take (n * sz) = cs) ∧ F = [(b, .cells c T (0, 0))]))[k]? = some (fun F => (v = .slice (some ⟨b, 0, none⟩) n cap ∧ c.size = cap * sz ∧ n ≤ cap ∧ cs.length = n * sz ∧ c.toList.take (n * sz) = cs) ∧ F = [(b, .cells c T (0, 0))]) := by
    rw [List.getElem?_set_self hlt]
  obtain ⟨h1, h2, h3, h4, h5⟩ := h.fact k hk' (fun F hF => hF.1)
  refine ⟨b, cap, c, h1, h2, h3, h4, h5, ?_⟩
  have := h.imp k hk' (p' := pt b (.cells c T (0, 0))) (fun F hF => hF.2)
  rwa [List.set_set] at this

theorem Sat.ownMk {b cap n sz T : Nat} {c : Array Value} {cs : List Value} (hS : Sat oo w L) (k : Nat) (hk : L[k]? = some (pt b (.cells c T (0, 0)))) (h1 : c.size = cap * sz) (h2 : n ≤ cap) (h3 : cs.length = n * sz) (h4 : c.toList.take (n * sz) = cs) :
    Sat oo w (L.set k (own (.slice (some ⟨b, 0, none⟩) n cap) T sz n cs)) :=
  hS.imp k hk fun F hF => .inr ⟨b, cap, c, rfl, hF, h1, h2, h3, h4⟩

theorem Src.own {v : Value} {T sz n : Nat} {cs : List Value} (hS : Sat oo w L) (k : Nat) (hk : L[k]? = some (Gx.own v T sz n cs)) : Src P w v sz n cs := by
  rcases Nat.eq_zero_or_pos n with rfl | hn
  · obtain ⟨h1, h2⟩ : (v = .slice none 0 0 ∨ ∃ b cap, v = .slice (some ⟨b, 0, none⟩) 0 cap) ∧ cs = [] := hS.fact k hk (by
      rintro F (⟨h1, _, h2, _⟩ | ⟨b, cap, c, h1, _, _, _, h5, h6⟩)
      · exact ⟨.inl h1, h2⟩
      · exact ⟨.inr ⟨b, cap, h1⟩, by simpa using h5⟩)
    subst h2
    rcases h1 with rfl | ⟨b, cap, rfl⟩
    · exact ⟨fun w' _ => ⟨by simp [Builtin.lenOf], by simp [Builtin.firstCells]⟩, by simp⟩
    · exact ⟨fun w' _ => ⟨by simp [Builtin.lenOf], by simp [Builtin.firstCells, loadCells, loadCellsFrom]⟩, by simp⟩
  · obtain ⟨b, cap, c, rfl, h1, h2, h3, h4, h5⟩ := hS.ownPos k hk hn
    have hlt : k < L.length := (List.getElem?_eq_some_iff.1 hk).1
    have hb := h5.get k (by rw [List.getElem?_set_self hlt])
    refine ⟨fun w' hw' => ⟨by simp [Builtin.lenOf], ?_⟩, h3⟩
    have := run_loadCellsFrom (P := P) (w := w') (b := b) (by rw [hw']; exact hb) 0 (n * sz) 0 #[] (by rw [h1]; simpa using Nat.mul_le_mul_right sz h2)
    simp only [Nat.zero_add, Array.empty_append] at this
    simp only [Builtin.firstCells, loadCells, this]
    congr 1
    apply Array.ext'
    simp only [Array.toList_extract, List.extract_eq_drop_take', List.drop_zero]
    exact h4

theorem Src.pt {b off n cap sz T : Nat} {c : Array Value} {fz : Nat × Nat} (hb : w.heap[b]? = some (.cells c T fz)) (hle : off + n * sz ≤ c.size) :
    Src P w (.slice (some ⟨b, off, none⟩) n cap) sz n ((c.toList.drop off).take (n * sz)) := by
  refine ⟨fun w' hw' => ⟨by simp [Builtin.lenOf], ?_⟩, by simp; omega⟩
  have := run_loadCellsFrom (P := P) (w := w') (b := b) (by rw [hw']; exact hb) off (n * sz) 0 #[] (by omega)
  simp only [Nat.add_zero, Array.empty_append] at this
  simp only [Builtin.firstCells, loadCells, this]
  congr 1
  apply Array.ext'
  simp only [Array.toList_extract, List.extract_eq_take_drop]
  rw [show off + n * sz - off = n * sz by omega]

theorem Ef.app {e t t1 nS nS1 ne nb n n' k : Nat} {z : Value} {de : TypeDesc} {d1 : TypeDesc} {x y : Operand} {v u : Value} {new cs : List Value}
    (hS : Sat oo w L) (hk : L[k]? = some (own v e ne n cs)) (hx : ev E x = some v) (hy : ev E y = some u)
    [ht : TI P t (.slice e) nS] [he : TI P e de ne] [hz : TZ P e z] [hb : TB P e nb] [ht1 : TI P t1 d1 nS1]
    (hsrc : Src P w u ne n' new) (hneed : n + n' ≤ 2147483648) (hpl : new.all Value.plain = true) (hzs : z.cells.size = ne := by rfl) (hnb : Nat.ble nb 1024 = true := by rfl) (hne : Nat.beq ne 0 = false := by rfl)
    (hd1 : ∀ k, d1 ≠ .int k := by intro k h; cases h) :
    Ef P N D E w ⟨dst, .call ⟨.builtin .append, #[x, y], #[t, t1]⟩, ty, pos, af, g⟩ (fun v' w' => Sat oo w' (L.set k (own v' e ne (n + n') (cs ++ new)))) := Ef.of_run fun a ha => by
  have hnb' : nb ≤ 1024 := by simpa using hnb
  have hne' : ne ≠ 0 := by intro h; subst h; simp at hne
  have hlt : k < L.length := (List.getElem?_eq_some_iff.1 hk).1
  have hrun : ∀ r w', (Builtin.append_ #[t, t1] ty #[v, u]).run P w = .ok r w' → (execOp a.eval ⟨dst, .call ⟨.builtin .append, #[x, y], #[t, t1]⟩, ty, pos, af, g⟩).run P w = .ok (.value r) w' := fun r w' h => by
    simp [execOp, resolve, invoke, builtin, ha.ev hx, ha.ev hy, h]
  have hn' := hsrc.2
  have hcase : (v = .slice none 0 0 ∧ n = 0 ∧ cs = []) ∨ ∃ b cap c, v = .slice (some ⟨b, 0, none⟩) n cap ∧ c.size = cap * ne ∧ n ≤ cap ∧ cs.length = n * ne ∧ c.toList.take (n * ne) = cs ∧ Sat oo w (L.set k (Gx.pt b (.cells c e (0, 0)))) := by
    obtain ⟨x, hx⟩ := hS.ex (α := Option (Nat × Nat × Array Value)) k (q := fun x F => match x with
      | none => (v = .slice none 0 0 ∧ n = 0 ∧ cs = []) ∧ F = []
      | some x => (v = .slice (some ⟨x.1, 0, none⟩) n x.2.1 ∧ x.2.2.size = x.2.1 * ne ∧ n ≤ x.2.1 ∧ cs.length = n * ne ∧ x.2.2.toList.take (n * ne) = cs) ∧ F = [(x.1, .cells x.2.2 e (0, 0))]) hk (by
      rintro F (⟨h1, h2, h3, h4⟩ | ⟨b, cap, c, h1, h2, h3, h4, h5, h6⟩)
      · exact ⟨none, ⟨h1, h2, h3⟩, h4⟩
      · exact ⟨some ⟨b, cap, c⟩, ⟨h1, h3, h4, h5, h6⟩, h2⟩)
    cases x with
    | none => exact .inl (hx.fact k (List.getElem?_set_self hlt) (fun F hF => hF.1))
    | some x =>
      obtain ⟨b, cap, c⟩ := x
      refine .inr ⟨b, cap, c, ?_⟩
      obtain ⟨h1, h2, h3, h4, h5⟩ := hx.fact k (List.getElem?_set_self hlt) (fun F hF => hF.1)
      refine ⟨h1, h2, h3, h4, h5, ?_⟩
      have := hx.imp k (List.getElem?_set_self hlt) (p' := Gx.pt b (.cells c e (0, 0))) (fun F hF => hF.2)
      rwa [List.set_set] at this
  have fin : ∀ (ncap : Nat) (r : List Value) (w1 : World), n + n' ≤ ncap → (w1.heap = w.heap ∧ Outs w w1) → (cs ++ new ++ r).length = ncap * ne → cs.length = n * ne →
      Sat oo (w1.alloc (.cells (cs ++ new ++ r).toArray e (0, 0))) (L.set k (own (.slice (some ⟨w.heap.size, 0, none⟩) (n + n') ncap) e ne (n + n') (cs ++ new))) := fun ncap r w1 h1 h2 h3 h4 => by
    have h5 : Sat oo (w1.alloc (.cells (cs ++ new ++ r).toArray e (0, 0))) (Gx.pt w.heap.size (.cells (cs ++ new ++ r).toArray e (0, 0)) :: L) := hS.new _ (by rw [← h2.1]; rfl) (Outs.via h2.2 ⟨rfl, rfl, rfl⟩)
    have h6 := h5.into k
    have h7 := h6.ownMk (cap := ncap) (n := n + n') (sz := ne) (cs := cs ++ new) k (List.getElem?_set_self hlt) (by simpa using h3) h1 (by simp only [List.length_append, h4, hn', Nat.add_mul]) (by
      rw [List.append_assoc, ← List.append_assoc]
      exact List.take_left' (by simp only [List.length_append, h4, hn', Nat.add_mul]))
    rwa [List.set_set] at h7
  rcases hcase with ⟨rfl, rfl, rfl⟩ | ⟨b, cap, c, rfl, h3, h4, h5, h6, h7⟩
  · rcases run_appendX (ty := ty) (w := w) (n := 0) (cap := 0) (b := 0) (c := #[]) (T := 0) (s := none) (at' := #[t, t1]) ht he hz hzs hb hnb' rfl rfl ht1 hd1 hsrc hneed hne' (.inl ⟨rfl, rfl, rfl, rfl⟩) hpl with ⟨_, hz0, hr⟩ | ⟨h, _⟩ | ⟨ncap, r, w1, g1, g2, g3, hr⟩
    · subst hz0
      have hnew : new = [] := by simpa using hn'
      subst hnew
      refine .inl ⟨_, _, hrun _ _ hr, ?_⟩
      have : L.set k (own (.slice none 0 0) e ne (0 + 0) ([] ++ [])) = L := by
        have hk' := List.getElem?_eq_some_iff.1 hk
        obtain ⟨hk1, hk2⟩ := hk'
        simp only [List.append_nil, Nat.add_zero]
        rw [← hk2]; exact List.set_getElem_self hk1
      rw [this]; exact hS
    · cases h
    · exact .inl ⟨_, _, hrun _ _ hr, fin ncap r w1 g1 g2 g3 (by simp)⟩
  · have hb' := h7.get k (List.getElem?_set_self hlt)
    rcases run_appendX (ty := ty) (w := w) (n := n) (cap := cap) (b := b) (c := c) (T := e) (s := some ⟨b, 0, none⟩) (at' := #[t, t1]) ht he hz hzs hb hnb' rfl rfl ht1 hd1 hsrc hneed hne' (.inr ⟨rfl, hb', h3, h4, h6, h5⟩) hpl with ⟨h, _⟩ | ⟨_, hroom, w', hr, g1, g2, go⟩ | ⟨ncap, r, w1, g1, g2, g3, hr⟩
    · cases h
    · refine .inl ⟨_, _, hrun _ _ hr, ?_⟩
      have h8 := h7.put k (List.getElem?_set_self hlt) _ g1 g2 go
      rw [List.set_set] at h8
      have hle : (n + n') * ne ≤ cap * ne := Nat.mul_le_mul_right _ hroom
      have h9 := h8.ownMk (cap := cap) (n := n + n') (sz := ne) (cs := cs ++ new) k (List.getElem?_set_self hlt) (by rw [wr_size, h3]) hroom (by simp only [List.length_append, h5, hn', Nat.add_mul]) (by
        apply List.ext_getElem?
        intro i
        rw [Nat.add_mul] at hle ⊢
        rw [List.getElem?_take, Array.getElem?_toList, wr_get _ _ _ _ (by rw [hn', h3]; exact hle)]
        have hcs : ∀ j, j < n * ne → c[j]? = cs[j]? := fun j hj => by
          rw [← h6, List.getElem?_take, if_pos hj, Array.getElem?_toList]
        by_cases h10 : i < n * ne
        · rw [if_pos (by omega), if_neg (by omega), hcs i h10, List.getElem?_append_left (by omega)]
        · by_cases h11 : i < n * ne + n' * ne
          · rw [if_pos h11, if_pos (by omega), List.getElem?_append_right (by omega), h5]
          · rw [if_neg h11, List.getElem?_eq_none (by simp only [List.length_append]; omega)])
      rwa [List.set_set] at h9
    · exact .inl ⟨_, _, hrun _ _ hr, fin ncap r w1 g1 g2 g3 h5⟩

theorem Sat.ownForm {v : Value} {T sz n : Nat} {cs : List Value} (hS : Sat oo w L) (k : Nat) (hk : L[k]? = some (own v T sz n cs)) : ∃ sp cap, v = .slice sp n cap :=
  hS.fact k hk (by
    rintro F (⟨h1, h2, _⟩ | ⟨b, cap, c, h1, _⟩)
    · exact ⟨none, 0, by rw [h1, h2]⟩
    · exact ⟨_, cap, h1⟩)

/-- A cell of an owned row. -/
theorem own_cell {c : Array Value} {cs : List Value} {m : Nat} (h : c.toList.take m = cs) {i : Nat} (hi : i < m) : c[i]? = cs[i]? := by
  rw [← h, List.getElem?_take, if_pos hi, Array.getElem?_toList]

/-- A cell of a list of rows of one width. -/
theorem rows_cell {α : Type} (f : α → List Value) (sz : Nat) (hf : ∀ x, (f x).length = sz) : ∀ (l : List α) (i j : Nat) (hi : i < l.length), j < sz → (l.flatMap f)[i * sz + j]? = (f l[i])[j]? := by
  intro l
  induction l with
  | nil => intro i j hi; simp at hi
  | cons x l ih =>
    intro i j hi hj
    rw [List.flatMap_cons]
    cases i with
    | zero => rw [Nat.zero_mul, Nat.zero_add, List.getElem?_append_left (by rw [hf]; exact hj)]; rfl
    | succ i =>
      rw [List.getElem?_append_right (by rw [hf, Nat.succ_mul]; omega), hf, show (i + 1) * sz + j - sz = i * sz + j by rw [Nat.succ_mul]; omega]
      exact ih i j (by simpa using hi) hj
theorem rows_length {α : Type} (f : α → List Value) (sz : Nat) (hf : ∀ x, (f x).length = sz) (l : List α) : (l.flatMap f).length = l.length * sz := by
  induction l with
  | nil => simp
  | cons x l ih => rw [List.flatMap_cons, List.length_append, hf, ih, List.length_cons, Nat.succ_mul]; omega

theorem Sat.nilOwn {T sz : Nat} (hS : Sat oo w L) : Sat oo w (own (.slice none 0 0) T sz 0 [] :: L) := by
  have h1 : Sat oo w (Star [] :: L) := Sat.star (B := []) hS
  exact h1.imp 0 rfl (fun F ⟨G, _, hG⟩ => .inl ⟨rfl, rfl, rfl, by simpa using hG⟩)

abbrev ints (l : List Int) : List Value := l.map (.int .i64)
theorem ints_len (l : List Int) : (ints l).length = l.length * 1 := by simp
theorem int_cell {c : Array Value} {l : List Int} {m : Nat} (h : c.toList.take m = ints l) (hm : m = l.length * 1) {i : Nat} (hi : i < l.length) : c.toList[0 + ((i : Int)).toNat * 1]? = some (.int .i64 l[i]) := by
  rw [show 0 + ((i : Int)).toNat * 1 = i by omega, Array.getElem?_toList, own_cell h (by omega)]
  simp [ints, hi]

theorem rows_take {α : Type} (f : α → List Value) (sz : Nat) (hf : ∀ x, (f x).length = sz) (l : List α) : ∀ k, (l.flatMap f).take (k * sz) = (l.take k).flatMap f := by
  induction l with
  | nil => intro k; simp
  | cons x l ih =>
    intro k
    cases k with
    | zero => simp
    | succ k =>
      rw [List.flatMap_cons, List.take_succ_cons, List.flatMap_cons, List.take_append, hf, show (k + 1) * sz - sz = k * sz by rw [Nat.succ_mul]; omega, ih, List.take_of_length_le (by rw [hf, Nat.succ_mul]; omega)]
theorem rows_drop {α : Type} (f : α → List Value) (sz : Nat) (hf : ∀ x, (f x).length = sz) (l : List α) : ∀ k, (l.flatMap f).drop (k * sz) = (l.drop k).flatMap f := by
  induction l with
  | nil => intro k; simp
  | cons x l ih =>
    intro k
    cases k with
    | zero => simp
    | succ k =>
      rw [List.flatMap_cons, List.drop_succ_cons, List.drop_append, hf, show (k + 1) * sz - sz = k * sz by rw [Nat.succ_mul]; omega, ih, List.drop_of_length_le (by rw [hf, Nat.succ_mul]; omega)]
      simp
/-- The first k rows of an owned row, as what an append takes. -/
theorem Src.rowsTake {α : Type} {f : α → List Value} {sz b cap cap' T k : Nat} {c : Array Value} {l : List α} (hf : ∀ x, (f x).length = sz) (hb : w.heap[b]? = some (.cells c T (0, 0))) (h1 : c.size = cap * sz) (h2 : l.length ≤ cap)
    (h4 : c.toList.take (l.length * sz) = l.flatMap f) (hk : k ≤ l.length) : Src P w (.slice (some ⟨b, 0, none⟩) k cap') sz k ((l.take k).flatMap f) := by
  have hle : k * sz ≤ cap * sz := Nat.mul_le_mul_right _ (by omega)
  have h := Src.pt (P := P) (w := w) (b := b) (off := 0) (n := k) (cap := cap') (sz := sz) hb (by omega)
  have hle2 : k * sz ≤ l.length * sz := Nat.mul_le_mul_right _ hk
  have e : (c.toList.drop 0).take (k * sz) = (l.take k).flatMap f := by
    rw [List.drop_zero, ← rows_take f sz hf, ← h4, List.take_take, Nat.min_eq_left hle2]
  rwa [e] at h
theorem Src.rowsDrop {α : Type} {f : α → List Value} {sz b cap cap' T k off m : Nat} {c : Array Value} {l : List α} (hf : ∀ x, (f x).length = sz) (hb : w.heap[b]? = some (.cells c T (0, 0))) (h1 : c.size = cap * sz) (h2 : l.length ≤ cap)
    (h4 : c.toList.take (l.length * sz) = l.flatMap f) (hk : k ≤ l.length) (hm : m = l.length - k) (ho : off = k * sz ∨ (m = 0 ∧ off = 0)) : Src P w (.slice (some ⟨b, off, none⟩) m cap') sz m ((l.drop k).flatMap f) := by
  subst hm
  have hle2 : l.length * sz ≤ cap * sz := Nat.mul_le_mul_right _ h2
  have hsp : k * sz + (l.length - k) * sz = l.length * sz := by rw [← Nat.add_mul]; congr 1; omega
  have hoff : off + (l.length - k) * sz ≤ c.size := by
    rcases ho with rfl | ⟨h0, rfl⟩
    · omega
    · rw [h0]; omega
  have h := Src.pt (P := P) (w := w) (b := b) (off := off) (n := l.length - k) (cap := cap') (sz := sz) hb hoff
  have e : (c.toList.drop off).take ((l.length - k) * sz) = (l.drop k).flatMap f := by
    rcases ho with rfl | ⟨h0, rfl⟩
    · rw [← rows_drop f sz hf, ← h4, List.drop_take]
      congr 1
      omega
    · have : k = l.length := by omega
      subst this
      simp
  rwa [e] at h

theorem foldl_wr (l : List Value) : ∀ (k : Nat) (a : Array Value) (off : Nat), (l.zipIdx k).foldl (fun cs x => cs.setIfInBounds (off + x.2) x.1) a = wr a (off + k) l := by
  induction l with
  | nil => intro k a off; rfl
  | cons v l ih => intro k a off; simp only [List.zipIdx_cons, List.foldl_cons, wr]; rw [ih]; rfl
theorem wr_all (l : List Value) (a : Array Value) (h : a.size = l.length) : wr a 0 l = l.toArray := by
  apply Array.ext_getElem?
  intro i
  rw [wr_get l a 0 i (by omega)]
  by_cases hi : i < l.length
  · rw [if_pos ⟨by omega, by omega⟩]; simp
  · rw [if_neg (by omega), Array.getElem?_eq_none (by omega)]; simp; omega
/-- A slice literal of one element. -/
theorem Ef.bsl1 {t e n ne : Nat} {x : Operand} {v z : Value} {de : TypeDesc} (hS : Sat oo w L) [ht : TI P t (.slice e) n] [he : TI P e de ne] [hz : TZ P e z] (hx : ev E x = some v) (hv : v.cells.toList.length = ne := by rfl) (hne : Nat.beq ne 0 = false := by rfl) (hne2 : Nat.ble ne 1024 = true := by rfl) :
    Ef P N D E w ⟨dst, .buildSlice t 1 #[(0, x)], ty, pos, af, g⟩ (fun u w' => ∃ b, u = .slice (some ⟨b, 0, none⟩) 1 1 ∧ Sat oo w' (pt b (.cells v.cells e (0, 0)) :: L)) := Ef.of_run fun a ha => by
  refine .inl ⟨.slice (some ⟨w.heap.size, 0, none⟩) 1 1, w.alloc (.cells v.cells e (0, 0)), ?_, w.heap.size, rfl, hS.new _ rfl⟩
  have hv' : v.cells.size = ne := by simpa using hv
  have hne' : ne ≠ 0 := by intro h; subst h; simp at hne
  have hne2' : ne ≤ 1024 := by simpa using hne2
  have h3 : ¬ (16777216 < 1 * ne) := by omega
  have h4 : ¬ (1 * ne = 0) := by omega
  have hfill : Instr.fill (fun i => some (i * ne, ne)) (Array.map (fun x => z.cells[x % z.cells.size]!) (Array.range (1 * ne))) [(0, v)] = some v.cells := by
    have hsz : (Array.map (fun x => z.cells[x % z.cells.size]!) (Array.range (1 * ne))).size = ne := by simp
    simp only [Instr.fill, hv', Nat.zero_mul, Nat.zero_add, hsz]
    have hcond : (ne != ne || decide (ne > ne)) = false := by simp
    have h5 := foldl_wr v.cells.toList 0 (Array.map (fun x => z.cells[x % z.cells.size]!) (Array.range (1 * ne))) 0
    rw [wr_all _ _ (by rw [hsz]; exact hv.symm)] at h5
    simp only [Nat.zero_add, Array.toArray_toList] at h5
    rw [← Array.foldl_toList, Array.toList_zipIdx, h5]
    simp
  simp only [execOp, Instr.buildSlice, Sem.run_bind, run_underlying ht, run_sizeOf he, Result.andThen_ok]
  simp [run_zeroValue hz, hne', ha.ev hx]
  simp only [Nat.one_mul] at hfill
  simp [hfill, run_newRow]
  omega
end
end Go.Gx

/- Operations with an effect, told for memory in pieces: stores, new blocks, made slices, append, calls; entering and leaving a function. No condition; nothing of any program stands here. -/
import Derived.Test.YtlicnplclfclcaaGxB
namespace Go.Gx
open Go
variable {oo : World}

/-- Cells written from a place on. -/
def wr (c : Array Value) (off : Nat) : List Value → Array Value
  | [] => c
  | v :: vs => wr (c.setIfInBounds off v) (off + 1) vs

theorem wr_size (vs : List Value) : ∀ (c : Array Value) (off : Nat), (wr c off vs).size = c.size := by
  induction vs with
  | nil => intro c off; rfl
  | cons v vs ih => intro c off; simp [wr, ih]

theorem wr_get (vs : List Value) : ∀ (c : Array Value) (off i : Nat), off + vs.length ≤ c.size → (wr c off vs)[i]? = if off ≤ i ∧ i < off + vs.length then vs[i - off]? else c[i]? := by
  induction vs with
  | nil => intro c off i _; simp [wr]; intro h1 h2; omega
  | cons v vs ih =>
    intro c off i hle
    simp only [List.length_cons] at hle
    simp only [wr]
    rw [ih _ _ _ (by simp; omega)]
    by_cases h1 : off + 1 ≤ i ∧ i < off + 1 + vs.length
    · rw [if_pos h1, if_pos (by simp only [List.length_cons]; omega)]
      rw [show i - off = (i - (off + 1)) + 1 by omega]; simp
    · rw [if_neg h1]
      by_cases h2 : i = off
      · subst h2
        rw [if_pos (by simp only [List.length_cons]; omega)]
        rw [Array.getElem?_setIfInBounds_self_of_lt (by omega)]
        simp
      · rw [if_neg (by simp only [List.length_cons]; omega)]
        rw [Array.getElem?_setIfInBounds_ne (Ne.symm h2)]

def Value.plain : Value → Bool
  | .agg _ | .tuple _ => false
  | _ => true

theorem heap_setCell {w : World} {b off : Nat} {c : Array Value} {T : TypeId} {fz : Nat × Nat} (h : w.heap[b]? = some (.cells c T fz)) (v : Value) :
    (w.setCell ⟨b, off, none⟩ v).heap[b]? = some (.cells (c.setIfInBounds off v) T fz) ∧ ∀ b', b' ≠ b → (w.setCell ⟨b, off, none⟩ v).heap[b']? = w.heap[b']? := by
  constructor
  · simp [World.setCell, Array.getElem?_modify, h]
  · intro b' hne
    simp [World.setCell, Array.getElem?_modify, Ne.symm hne]

theorem run_store {P : Program} {w : World} {b off : Nat} {c : Array Value} {T : TypeId} (h : w.heap[b]? = some (.cells c T (0, 0))) (hlt : off < c.size) (v : Value) (hp : Value.plain v = true) :
    (store ⟨b, off, none⟩ v).run P w = .ok () (w.setCell ⟨b, off, none⟩ v) := by
  have hc : w.cell? ⟨b, off, none⟩ = some c[off] := by rw [cell_of h]; simp [hlt]
  have hf : w.frozen? ⟨b, off, none⟩ = false := by simp [World.frozen?, h]
  cases v <;> simp [Value.plain] at hp <;> simp [store, Sem.run, hc, hf]

theorem run_storeCells {P : Program} {b : Nat} {T : TypeId} (off : Nat) (vs : List Value) : ∀ (i : Nat) (c : Array Value) (w : World), w.heap[b]? = some (.cells c T (0, 0)) → off + i + vs.length ≤ c.size → vs.all Value.plain = true →
    ∃ w', (storeCells ⟨b, off, none⟩ vs i).run P w = .ok () w' ∧ w'.heap[b]? = some (.cells (wr c (off + i) vs) T (0, 0)) ∧ (∀ b', b' ≠ b → w'.heap[b']? = w.heap[b']?) ∧ Outs w w' := by
  induction vs with
  | nil => intro i c w h _ _; exact ⟨w, by simp [storeCells], h, fun _ _ => rfl, rfl, rfl, rfl⟩
  | cons v vs ih =>
    intro i c w h hle hp
    simp only [List.length_cons] at hle
    simp only [List.all_cons, Bool.and_eq_true] at hp
    have hadd : (⟨b, off, none⟩ : Addr).add i = ⟨b, off + i, none⟩ := by
      unfold Addr.add
      by_cases h0 : i = 0 <;> simp [h0]
    obtain ⟨h1, h2⟩ := heap_setCell (off := off + i) h v
    obtain ⟨w', hr, hb, hne, ho⟩ := ih (i + 1) _ _ h1 (by simp; omega) hp.2
    refine ⟨w', ?_, ?_, fun b' hb' => (hne b' hb').trans (h2 b' hb'), Outs.via ⟨rfl, rfl, rfl⟩ ho⟩
    · simp only [storeCells, Sem.run_bind, hadd, run_store h (show off + i < c.size by omega) v hp.1, Result.andThen_ok]
      exact hr
    · rw [hb]; rfl

section
variable {P : Program} {N : Nat} {D : List Deferred} {E : Env} {w : World} {dst : Option Nat} {ty : TypeId} {pos : String} {af : Array Edge} {g : Option (Nat × Bool)} {L : List HP}

theorem Ef.of_run {o : Oper} {R : Value → World → Prop} (h : ∀ a : Act, Knows a E → (∃ v w', (execOp a.eval o).run P w = .ok (.value v) w' ∧ R v w') ∨ (∃ w', (execOp a.eval o).run P w = .ok .skip w' ∧ R undef w')) : Ef P N D E w o R := fun ρ a ha K Q hK => by
  rcases h a ha.knows with ⟨v, w', hr, hR⟩ | ⟨w', hr, hR⟩
  · exact wpIn_value hr (hK v w' hR)
  · exact wpIn_skipV hr (hK undef w' hR)

/-- A store of whatever size. -/
theorem Ef.st {t : Nat} {x y : Operand} {b off n : Nat} {d : TypeDesc} {c : Array Value} {T : TypeId} {v : Value} [ht : TI P t d n] (hS : Sat oo w L) (k' : Nat) (hx : ev E x = some (.pointer (some ⟨b, off, none⟩))) (hk : L[k']? = some (pt b (.cells c T (0, 0)))) (hy : ev E y = some v)
    (hn : v.cells.toList.length = n := by rfl) (hp : v.cells.toList.all Value.plain = true := by rfl) (hle : off + n ≤ c.size) :
    Ef P N D E w ⟨dst, .store t x y, ty, pos, af, g⟩ (fun _ w' => Sat oo w' (L.set k' (pt b (.cells (wr c off v.cells.toList) T (0, 0))))) := Ef.of_run fun a ha => by
  refine .inr ?_
  obtain ⟨w', hr, hb, hne, ho⟩ := run_storeCells (P := P) off v.cells.toList 0 c w (hS.get k' hk) (by omega) hp
  refine ⟨w', ?_, hS.put k' hk _ hb hne ho⟩
  have hsz : v.cells.size = n := by simpa using hn
  simp [execOp, ha.ev hx, ha.ev hy, Instr.storeAt, Instr.sureAddr, storeVar, run_sizeOf ht, hsz, hr]

theorem run_newRow {t : Nat} {cs : Array Value} (w : World) : (newRow t cs).run P w = .ok ⟨w.heap.size, 0, none⟩ { w with heap := w.heap.push (.cells cs t (0, 0)) } := by
  simp [newRow, newObj, Sem.run]

theorem Ef.box {t : Nat} {x : Operand} {v : Value} (hS : Sat oo w L) (hx : ev E x = some v) :
    Ef P N D E w ⟨dst, .box t x, ty, pos, af, g⟩ (fun u w' => ∃ b, u = .pointer (some ⟨b, 0, none⟩) ∧ Sat oo w' (pt b (.cells v.cells t (0, 0)) :: L)) := Ef.of_run fun a ha => by
  refine .inl ⟨.pointer (some ⟨w.heap.size, 0, none⟩), w.alloc (.cells v.cells t), by simp [execOp, Instr.box, newVar, run_newRow, ha.ev hx], w.heap.size, rfl, hS.new _ rfl⟩

theorem Ef.alloc {t : Nat} {z : Value} (hS : Sat oo w L) [hz : TZ P t z] :
    Ef P N D E w ⟨dst, .alloc t, ty, pos, af, g⟩ (fun u w' => ∃ b, u = .pointer (some ⟨b, 0, none⟩) ∧ Sat oo w' (pt b (.cells z.cells t (0, 0)) :: L)) := Ef.of_run fun a ha => by
  refine .inl ⟨.pointer (some ⟨w.heap.size, 0, none⟩), w.alloc (.cells z.cells t), by simp [execOp, Instr.alloc, newVar, run_newRow, run_zeroValue hz], w.heap.size, rfl, hS.new _ rfl⟩

/-- A call of a named function by its contract. -/
theorem Ef.call {f : FuncId} {x : Operand} {args : Array Operand} {at' : Array TypeId} {vs : Array Value} {pre : List HP} {post : Value → List HP → Prop} (hS : Sat oo w L) (hc : Ct P f vs pre post)
    (hx : ev E x = some (.func (.func f) #[] #[])) (hvs : args.toList.map (ev E) = vs.toList.map some) (hcall : ∀ (args : Array Value) (w : World), (callFunc f args).run P w = .ok (.enter f args) w)
    (s t : List Nat) {rest : List HP} (hn : (s ++ t).Nodup) (hs : selL L s = some pre) (ht : selL L t = some rest) :
    Ef P N D E w ⟨dst, .call ⟨.value x, args, at'⟩, ty, pos, af, g⟩ (fun v w' => ∃ ps, post v ps ∧ Sat oo w' (ps ++ rest)) := fun ρ a ha K Q hK => by
  have hargs : args.map a.eval = vs := by
    apply Array.ext'
    simp only [Array.toList_map]
    apply List.ext_getElem?
    intro i
    have h1 : (args.toList.map (ev E))[i]? = (vs.toList.map some)[i]? := by rw [hvs]
    simp only [List.getElem?_map] at h1 ⊢
    cases hi : args.toList[i]? with
    | none =>
      rw [hi] at h1
      simp at h1
      cases hj : vs.toList[i]? with
      | none => rfl
      | some u => simp only [Array.getElem?_toList] at hj; rw [hj] at h1; simp at h1
    | some y =>
      rw [hi] at h1
      simp only [Option.map_some] at h1
      cases hj : vs.toList[i]? with
      | none => rw [hj] at h1; simp at h1
      | some u =>
        rw [hj] at h1
        simp only [Option.map_some, Option.some.injEq] at h1
        simp [ha.knows.ev h1]
  have hrun : (execOp a.eval ⟨dst, .call ⟨.value x, args, at'⟩, ty, pos, af, g⟩).run P w = .ok (.enter f vs) w := by
    simp [execOp, resolve, ha.knows.ev hx, hargs, Deferred.ofValue, invoke, hcall]
  refine ⟨fun _ _ => trivial, ?_⟩
  rw [Oper.semAt_eq _ _ _ (fun c hc => by cases hc), hrun, Oper.uponIn_enter]
  refine ⟨fun h => (by cases h), ?_⟩
  refine CallsIn.mono (callsIn_wide.2 (hc.call hS s t hn (selL_map _ _ hs) (selL_map _ _ ht))) ?_
  rintro e w' ⟨v, ps, rfl, hp, hs'⟩
  exact hK v w' ⟨ps, hp, hs'⟩

/-! ### entering and leaving -/
def initE (i : Nat) : List Value → Env
  | [] => []
  | v :: vs => (i, v) :: initE (i + 1) vs

theorem initE_look (vs : List Value) : ∀ (i t : Nat) (v : Value), look (initE i vs) t = some v → i ≤ t ∧ vs[t - i]? = some v := by
  induction vs with
  | nil => intro i t v h; cases h
  | cons u vs ih =>
    intro i t v h
    simp only [initE, look] at h
    cases hb : Nat.beq i t with
    | true =>
      have e : i = t := Nat.eq_of_beq_eq_true hb
      subst e
      simp only [hb] at h
      exact ⟨Nat.le_refl _, by simpa using h⟩
    | false =>
      simp only [hb] at h
      obtain ⟨h1, h2⟩ := ih (i + 1) t v h
      refine ⟨by omega, ?_⟩
      rw [show t - i = (t - (i + 1)) + 1 by omega]
      simpa using h2

/-- The post of a contract as a relation on endings. -/
def endR (oo : World) (post : Value → List HP → Prop) (R : HP) : Ending → World → Prop := fun e w' => ∃ v ps, e = .returned v ∧ post v ps ∧ Sat oo w' (ps ++ [R])

theorem Ct.enter {f : FuncId} {fn : Func} {c : Code} {args : Array Value} {pre : List HP} {post : Value → List HP → Prop} (hf : P.funcs[f]? = some fn) (hb : fn.body = some c) (hN : args.size ≤ fn.ntmps)
    (h : ∀ oo w R, Sat oo w (pre ++ [R]) → RC none P fn.ntmps [] (bodyP P fn (endR oo post R)) c (initE 0 args.toList) w) : Ct P f args pre post := fun oo w R hS => by
  have hA : Agree fn.ntmps [] { tmps := args ++ Array.replicate (fn.ntmps - args.size) undef, defers := [] } (initE 0 args.toList) := by
    refine ⟨?_, rfl, ?_⟩
    · simp; omega
    · intro t v hv
      obtain ⟨_, h2⟩ := initE_look _ _ _ _ hv
      simp only [Nat.sub_zero] at h2
      have hlt : t < args.size := by
        rcases Nat.lt_or_ge t args.size with h | h
        · exact h
        · rw [List.getElem?_eq_none (by simpa using h)] at h2; cases h2
      have h3 : args[t]? = some v := by simpa using h2
      simp [Array.getElem?_append_left hlt, h3]
  exact (callsIn_wide (n := 0)).1 (callsIn_of_wp_marks (F := FW none) hf hb trivial (wpIn_mono (h oo w R hS _ hA) (fun e a w' hq => by cases e <;> first | exact hq | exact hq.elim)))

def resV (E : Env) : List ResultVar → Option (List Value)
  | [] => some []
  | .tmp t :: rs => match look E t, resV E rs with
    | some v, some vs => some (v :: vs)
    | _, _ => none
  | _ => none

theorem run_mapM_tmps {a : Act} {E : Env} (ha : Knows a E) (w : World) (F : ResultVar → Sem Value) (hF : ∀ t, F (.tmp t) = pure (a.tmps.getD t undef)) : ∀ (rs : List ResultVar) (vs : List Value), resV E rs = some vs →
    (rs.mapM F).run P w = .ok vs w := by
  intro rs
  induction rs with
  | nil => intro vs h; simp [resV] at h; subst h; simp
  | cons r rs ih =>
    intro vs h
    cases r with
    | cell b t => simp [resV] at h
    | tmp t =>
      simp only [resV] at h
      cases hl : look E t with
      | none => rw [hl] at h; simp at h
      | some v =>
        cases hr : resV E rs with
        | none => rw [hl, hr] at h; simp at h
        | some us =>
          rw [hl, hr] at h
          simp only [Option.some.injEq] at h
          subst h
          rw [List.mapM_cons, hF]
          have h1 := ha t v hl
          have h2 := ih us hr
          simp only [Sem.run_bind, Sem.run_pure, Result.andThen_ok, h2, h1]

def oneOf : List Value → Value
  | [v] => v
  | vs => .tuple vs.toArray

theorem run_results {fn : Func} {a : Act} {E : Env} (ha : Knows a E) {vs : List Value} (h : resV E fn.results.toList = some vs) (w : World) : (results fn a.tmps).run P w = .ok (oneOf vs) w := by
  unfold results
  rw [Array.mapM_eq_mapM_toList, Sem.run_bind, Sem.run_map, run_mapM_tmps (P := P) ha w _ (fun _ => rfl) _ _ h]
  simp only [Result.andThen_ok, Sem.run_pure]
  congr 1
  match vs with
  | [] => simp [oneOf]
  | [v] => simp [oneOf]
  | v :: u :: vs => simp [oneOf]

theorem RE.retB {fn : Func} {post : Value → List HP → Prop} {R : HP} {vs : List Value} {ps : List HP} (hr : resV E fn.results.toList = some vs) (hp : post (oneOf vs) ps) (hS : Sat oo w (ps ++ [R])) : RE N [] (bodyP P fn (endR oo post R)) .ret E w := fun a ha =>
by
  show LeavesInM _ _ _ _ _ _ a.defers _ _
  rw [ha.defers]
  exact ⟨_, run_results ha.knows hr w, _, _, rfl, hp, hS⟩
theorem RE.endB {fn : Func} {post : Value → List HP → Prop} {R : HP} {vs : List Value} {ps : List HP} (hr : resV E fn.results.toList = some vs) (hp : post (oneOf vs) ps) (hS : Sat oo w (ps ++ [R])) : RE N [] (bodyP P fn (endR oo post R)) .normal E w := fun a ha =>
by
  show LeavesInM _ _ _ _ _ _ a.defers _ _
  rw [ha.defers]
  exact ⟨_, run_results ha.knows hr w, _, _, rfl, hp, hS⟩

/-- A result that lies in a cell, of an array's or a struct's type. -/
theorem RE.retCell {fn : Func} {post : Value → List HP → Prop} {R : HP} {ps : List HP} {k t b off n r : Nat} {d : TypeDesc} {c cs : Array Value} {T : TypeId} [ht : TI P t d n] (hS0 : Sat oo w L) (hr : fn.results = #[.cell r t]) (hl : look E r = some (.pointer (some ⟨b, off, none⟩)))
    (hk : L[k]? = some (pt b (.cells c T (0, 0)))) (hv : c.extract off (off + n) = cs) (hle : off + n ≤ c.size) (hp : post (.agg cs) ps) (hS : Sat oo w (ps ++ [R])) (hd : aggB d = true := by rfl) : RE N [] (bodyP P fn (endR oo post R)) .ret E w := fun a ha => by
  show LeavesInM _ _ _ _ _ _ a.defers _ _
  rw [ha.defers]
  refine ⟨.agg cs, ?_, _, _, rfl, hp, hS⟩
  have h1 := run_loadCellsFrom (P := P) (hS0.get k hk) off n 0 #[] (by omega)
  simp only [Nat.add_zero, Array.empty_append, hv] at h1
  have h2 := ha.knows r _ hl
  simp only [Array.getD_eq_getD_getElem?] at h2
  simp [results, hr, h2, asAddr, loadVar, run_isAgg ht, hd, run_sizeOf ht, loadCells, h1]
end
end Go.Gx

/- More of the engine: results that lie in cells, beside others; equality of structs of numbers and booleans. Nothing of any program stands here. -/
import Derived.Test.YtlicnplclfclcaaGxE
import Derived.Test.YtlicnplclfclcaaGxC
import Derived.Test.YtlicnplclfclcaaGxG
namespace Go.Gx
open Go

section
variable {P : Program} {N : Nat} {oo : World} {w : World} {E : Env} {L : List HP}

/-- What a function's results come to at a return. -/
inductive ResW (P : Program) (w : World) (E : Env) : List ResultVar → List Value → Prop where
  | nil : ResW P w E [] []
  | tmp {t : Nat} {v : Value} {rs : List ResultVar} {vs : List Value} (h : look E t = some v) (g : ResW P w E rs vs) : ResW P w E (.tmp t :: rs) (v :: vs)
  | cell {r t b off n : Nat} {d : TypeDesc} {c cs : Array Value} {T : TypeId} {z : Nat × Nat} {rs : List ResultVar} {vs : List Value} (ht : TI P t d n) (hd : aggB d = true) (hl : look E r = some (.pointer (some ⟨b, off, none⟩)))
      (hk : w.heap[b]? = some (.cells c T z)) (hv : c.extract off (off + n) = cs) (hle : off + n ≤ c.size) (g : ResW P w E rs vs) : ResW P w E (.cell r t :: rs) (.agg cs :: vs)

theorem run_resW {a : Act} (ha : Knows a E) {rs : List ResultVar} {vs : List Value} (h : ResW P w E rs vs) (F : ResultVar → Sem Value) (hF : ∀ t, F (.tmp t) = pure (a.tmps.getD t undef)) (hC : ∀ r t, F (.cell r t) = (do loadVar t (← asAddr (a.tmps.getD r undef)))) :
    (rs.mapM F).run P w = .ok vs w := by
  induction h with
  | nil => simp
  | tmp h g ih =>
    rw [List.mapM_cons, hF]
    have h1 := ha _ _ h
    simp only [Sem.run_bind, Sem.run_pure, Result.andThen_ok, ih, h1]
  | @cell r t b off n d c cs T z rs vs ht hd hl hk hv hle g ih =>
    rw [List.mapM_cons, hC]
    have h1 := run_loadCellsFrom (P := P) hk off n 0 #[] (by omega)
    simp only [Nat.add_zero, Array.empty_append, hv] at h1
    have h2 := ha r _ hl
    have h3 : (loadVar t ⟨b, off, none⟩).run P w = .ok (.agg cs) w := by
      simp [loadVar, run_isAgg ht, hd, run_sizeOf ht, loadCells, h1]
    have h4 : (asAddr (a.tmps.getD r undef)).run P w = .ok ⟨b, off, none⟩ w := by rw [h2]; simp [asAddr]
    simp only [Sem.run_bind, h4, Result.andThen_ok, h3, ih, Sem.run_pure]

theorem run_resultsW {fn : Func} {a : Act} (ha : Knows a E) {vs : List Value} (h : ResW P w E fn.results.toList vs) : (results fn a.tmps).run P w = .ok (oneOf vs) w := by
  unfold results
  rw [Array.mapM_eq_mapM_toList, Sem.run_bind, Sem.run_map, run_resW ha h _ (fun _ => rfl) (fun _ _ => rfl)]
  simp only [Result.andThen_ok, Sem.run_pure]
  congr 1
  match vs with
  | [] => simp [oneOf]
  | [v] => simp [oneOf]
  | v :: u :: vs => simp [oneOf]

theorem RE.retW {fn : Func} {post : Value → List HP → Prop} {R : HP} {vs : List Value} {ps : List HP} (hr : ResW P w E fn.results.toList vs) (hp : post (oneOf vs) ps) (hS : Sat oo w (ps ++ [R])) : RE N [] (bodyP P fn (endR oo post R)) .ret E w := fun a ha => by
  show LeavesInM _ _ _ _ _ _ a.defers _ _
  rw [ha.defers]
  exact ⟨_, run_resultsW ha.knows hr, _, _, rfl, hp, hS⟩
end

section
variable {P : Program} {S : World → Prop} {E : Env} {dst : Option Nat} {ty : TypeId} {pos : String} {af : Array Edge} {g : Option (Nat × Bool)}

/-- Fields of a struct, each a number or a boolean, that are the same. -/
inductive FEq (P : Program) (xs ys : Array Value) : List Field → Bool → Prop where
  | nil : FEq P xs ys [] true
  | int {f : Field} {fs : List Field} {k : IntKind} {a b : Int} {r : Bool} (hn : f.name ≠ "_") (ht : TI P f.type (.int k) 1) (hx : xs[f.offset]? = some (.int k a)) (hy : ys[f.offset]? = some (.int k b)) (h : FEq P xs ys fs r) : FEq P xs ys (f :: fs) (decide (a = b) && r)
  | bool {f : Field} {fs : List Field} {a b : Bool} {r : Bool} (hn : f.name ≠ "_") (ht : TI P f.type .bool 1) (hx : xs[f.offset]? = some (.bool a)) (hy : ys[f.offset]? = some (.bool b)) (h : FEq P xs ys fs r) : FEq P xs ys (f :: fs) (a == b && r)

theorem run_FEq {xs ys : Array Value} {d : Nat} {w : World} {fs : List Field} {r : Bool} (h : FEq P xs ys fs r) : (Op.eqFields (d + 1) xs ys fs).run P w = .ok r w := by
  induction h with
  | nil => simp [Op.eqFields]
  | @int f fs k a b r hn ht hx hy h ih =>
    have px : (part f.type xs f.offset).run P w = .ok (.int k a) w := by simp [part, run_isAgg ht, aggB, hx]
    have py : (part f.type ys f.offset).run P w = .ok (.int k b) w := by simp [part, run_isAgg ht, aggB, hy]
    have pe := run_equalIn_int w d f.type k k a b ht.u
    simp only [Op.eqFields, if_pos hn, Sem.run_bind, px, py, pe, Result.andThen_ok]
    rw [show (a == b) = decide (a = b) by rw [Bool.eq_iff_iff]; simp]
    cases hb : decide (a = b)
    · simp
    · simp only [Bool.not_true, Bool.false_eq_true, if_false, Bool.true_and]; exact ih
  | @bool f fs a b r hn ht hx hy h ih =>
    have px : (part f.type xs f.offset).run P w = .ok (.bool a) w := by simp [part, run_isAgg ht, aggB, hx]
    have py : (part f.type ys f.offset).run P w = .ok (.bool b) w := by simp [part, run_isAgg ht, aggB, hy]
    have pe := run_equalIn_bool' w d f.type a b ht.u
    simp only [Op.eqFields, if_pos hn, Sem.run_bind, px, py, pe, Result.andThen_ok]
    cases hb : a == b
    · simp
    · simp only [Bool.not_true, Bool.false_eq_true, if_false, Bool.true_and]; exact ih

theorem equal_struct {t : Nat} {fs : Array Field} {xs ys : Array Value} {r : Bool} (hu : P.underlying t = some (.struct fs)) (hs : P.stoodInHeld t = false) (h : FEq P xs ys fs.toList r) (w : World) : (Op.equalIn 10000 t (.agg xs) (.agg ys)).run P w = .ok r w := by
  have e : P.fieldsOf t = fs := by simp [Program.fieldsOf, hu]
  rw [show (10000 : Nat) = 9998 + 1 + 1 from rfl, run_equalIn_struct w (9998 + 1) t xs ys (by rw [e]; exact hu) hs, e]
  exact run_FEq h

theorem Qt.slLo0 {x i : Operand} {t n e l c : Nat} {p : Option Addr} {k : IntKind} {ne : Nat} {de : TypeDesc} [ht : TI P t (.slice e) n] [he : TI P e de ne] (hx : ev E x = some (.slice p l c)) (hi : ev E i = some (.int k 0)) :
    Qt P S E ⟨dst, .slice t x (some i) none none, ty, pos, af, g⟩ (.slice p l c) := fun a ha w _ => by
  simp [execOp, ha.ev hx, ha.ev hi, Instr.sliceAt, Instr.slice, run_underlying ht, Instr.sliceBounds, Instr.sliceBound, asIntOf, run_sizeOf he]
  by_cases hc : c = 0
  · simp [hc]
  · cases p <;> simp [hc, Addr.add]

theorem Qt.eqlT {x y : Operand} {t t' : Nat} {xs ys : Array Value} {r : Bool} (hx : ev E x = some (.agg xs)) (hy : ev E y = some (.agg ys)) (he : ∀ w, (Op.equalIn 10000 t (.agg xs) (.agg ys)).run P w = .ok r w) (hg : P.eqGuardType P.depth t = false := by kernel_rfl) :
    Qt P S E ⟨dst, .binOp .eql t x y t', ty, pos, af, g⟩ (.bool r) := fun a ha w _ => by
  simp [execOp, ha.ev hx, ha.ev hy, binOp, eqGuard, Op.equal, Op.maxDepth, he, hg]
theorem Qt.neqT {x y : Operand} {t t' : Nat} {xs ys : Array Value} {r : Bool} (hx : ev E x = some (.agg xs)) (hy : ev E y = some (.agg ys)) (he : ∀ w, (Op.equalIn 10000 t (.agg xs) (.agg ys)).run P w = .ok r w) (hg : P.eqGuardType P.depth t = false := by kernel_rfl) :
    Qt P S E ⟨dst, .binOp .neq t x y t', ty, pos, af, g⟩ (.bool (!r)) := fun a ha w _ => by
  simp [execOp, ha.ev hx, ha.ev hy, binOp, eqGuard, Op.equal, Op.maxDepth, he, hg]
end

/-- Some cells of a row that a slice owns. -/
theorem row_part {α : Type} {f : α → List Value} {sz : Nat} {c : Array Value} {l : List α} {m : Nat} (hf : ∀ x, (f x).length = sz) (h : c.toList.take m = l.flatMap f) (hm : m = l.length * sz) (hs : m ≤ c.size) {i : Nat} (hi : i < l.length) {a n k k' : Nat} {vs : Array Value} (hv : (f l[i]).toArray.extract a (a + n) = vs) (ha : a + n ≤ sz) (hk : k = i * sz + a) (hk' : k' = k + n) : c.extract k k' = vs := by
  subst hk'; subst hk; subst hv
  have hle : i * sz + sz ≤ l.length * sz := by rw [← Nat.succ_mul]; exact Nat.mul_le_mul_right _ hi
  apply Array.ext'
  apply List.ext_getElem?
  intro j
  simp only [Array.toList_extract, List.extract_eq_take_drop]
  rw [List.getElem?_take, List.getElem?_drop, List.getElem?_take, List.getElem?_drop, show i * sz + a + n - (i * sz + a) = n by omega, show a + n - a = n by omega]
  by_cases hj : j < n
  · rw [if_pos hj, if_pos hj, Array.getElem?_toList, Nat.add_assoc, own_cell h (by omega), rows_cell f sz hf l i (a + j) hi (by omega)]
  · rw [if_neg hj, if_neg hj]

section
variable {ρ : Option Nat} {P : Program} {N : Nat} {D : List Deferred} {Q : Exit → Act → World → Prop}
/-- Two operations of the head that may go in either order, and come to the same. -/
theorem RH.pair {lo : List Oper} {S : World → Prop} {n i j : Nat} {tl : List Oper} {l : List Nat} {E : Env} {w : World} {di dj : Nat} {oi oj : Op} {tyi tyj : TypeId} {pi pj : String} {ai aj : Array Edge}
    (Z : Value → Value → World → Prop)
    (hh : Head N lo.toArray n tl) (hoi : lo[i]? = some ⟨some di, oi, tyi, pi, ai, none⟩) (hoj : lo[j]? = some ⟨some dj, oj, tyj, pj, aj, none⟩) (hb : step2 lo.toArray n i j l = true) (hne : Nat.beq di dj = false)
    (h1 : ∃ R, Ef P N D E w ⟨some di, oi, tyi, pi, ai, none⟩ R ∧ ∀ v w1, R v w1 → S w1 ∧ ∃ R2, Ef P N D ((di, v) :: E) w1 ⟨some dj, oj, tyj, pj, aj, none⟩ R2 ∧ ∀ u w2, R2 u w2 → Z v u w2)
    (h2 : ∃ R, Ef P N D E w ⟨some dj, oj, tyj, pj, aj, none⟩ R ∧ ∀ u w1, R u w1 → S w1 ∧ ∃ R2, Ef P N D ((dj, u) :: E) w1 ⟨some di, oi, tyi, pi, ai, none⟩ R2 ∧ ∀ v w2, R2 v w2 → Z v u w2)
    (h : ∀ v u w', Z v u w' → S w' ∧ RH ρ P N D lo.toArray Q S n tl l ((dj, u) :: (di, v) :: E) w') :
    RH ρ P N D lo.toArray Q S n tl (i :: j :: l) E w := fun _ a ha listed hl inv => by
  subst hl
  have hoi : lo.toArray[i]? = some ⟨some di, oi, tyi, pi, ai, none⟩ := by simpa using hoi
  have hoj : lo.toArray[j]? = some ⟨some dj, oj, tyj, pj, aj, none⟩ := by simpa using hoj
  simp only [step2, Bool.and_eq_true, decide_eq_true_eq] at hb
  obtain ⟨⟨⟨⟨⟨⟨hin, hjn⟩, hr0⟩, hr1⟩, hr2⟩, hs1⟩, hs2⟩ := hb
  have hdi : dstOK N ⟨some di, oi, tyi, pi, ai, none⟩ = true := Array.all_eq_true_iff_forall_mem.1 hh.2.1 _ (Array.mem_of_getElem? hoi)
  have hdj : dstOK N ⟨some dj, oj, tyj, pj, aj, none⟩ = true := Array.all_eq_true_iff_forall_mem.1 hh.2.1 _ (Array.mem_of_getElem? hoj)
  have iv1 := inv.set (i := i) (by rw [hr0]; simp) hin
  have iv2 := inv.set (i := j) (by rw [hr0]; simp) hjn
  have iv12 := iv1.set (i := j) (by rw [hr1]; simp) hjn
  rw [hs1] at iv12
  refine ⟨by rw [hr0]; simp, fun k hk => ?_⟩
  rw [hr0] at hk
  simp only [List.mem_cons, List.not_mem_nil, or_false] at hk
  obtain ⟨R1, f1, f2⟩ := h1
  obtain ⟨R2, g1, g2⟩ := h2
  rcases hk with rfl | rfl
  · refine ⟨hin, ?_⟩
    unfold wpOpIn
    simp only [hoi]
    rw [if_pos (Runs.plain (E := E) rfl a ha.knows)]
    refine f1 ρ a ha _ _ ?_
    intro v w1 hR
    obtain ⟨hs, R3, f3, f4⟩ := f2 v w1 hR
    have ha1 := ha.put hdi v
    refine ⟨hs, by rw [hr1]; simp, fun k hk => ?_⟩
    rw [hr1] at hk
    have hkj : k = j := by simpa using hk
    subst hkj
    refine ⟨hjn, ?_⟩
    unfold wpOpIn
    simp only [hoj]
    rw [if_pos (by simp [Region.wanted])]
    refine f3 ρ _ ha1 _ _ ?_
    intro u w2 hR2
    obtain ⟨e1, e2⟩ := h v u w2 (f4 u w2 hR2)
    refine ⟨e1, ?_⟩
    rw [hs1]
    exact e2 e1 _ (ha1.put hdj _) _ rfl iv12
  · refine ⟨hjn, ?_⟩
    unfold wpOpIn
    simp only [hoj]
    rw [if_pos (Runs.plain (E := E) rfl a ha.knows)]
    refine g1 ρ a ha _ _ ?_
    intro u w1 hR
    obtain ⟨hs, R3, f3, f4⟩ := g2 u w1 hR
    have ha1 := ha.put hdj u
    refine ⟨hs, by rw [hr2]; simp, fun k hk => ?_⟩
    rw [hr2] at hk
    have hki : k = i := by simpa using hk
    subst hki
    refine ⟨hin, ?_⟩
    unfold wpOpIn
    simp only [hoi]
    rw [if_pos (by simp [Region.wanted])]
    refine f3 ρ _ ha1 _ _ ?_
    intro v w2 hR2
    obtain ⟨e1, e2⟩ := h v u w2 (f4 v w2 hR2)
    refine ⟨e1, ?_⟩
    rw [hs2]
    exact e2 e1 _ ((ha1.put hdi _).sub (look_swap hne)) _ rfl iv12
end
end Go.Gx

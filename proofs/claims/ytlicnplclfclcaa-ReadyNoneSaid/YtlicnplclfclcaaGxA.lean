/- The core of this session's own stepping rules: an environment of known temporaries, quiet operations, operations with an effect, plain and drawn regions, control flow. No condition; nothing of any program stands here. -/
import Derived.WalkKit
import Derived.OrdersHeld
import Derived.OrdersIn
import Derived.StillTail
import Derived.Sort.LoopGhostIn
import Derived.TacticsInMore
import Derived.RangeFuncNested
import Derived.RangeFuncCalls
namespace Go.Gx
open Go

abbrev Env := List (Nat × Value)

def look : Env → Nat → Option Value
  | [], _ => none
  | (t, v) :: E, s => match Nat.beq t s with
    | true => some v
    | false => look E s

def ev (E : Env) : Operand → Option Value
  | .tmp t => look E t
  | .const v => some v
  | .global g => some (.pointer (some ⟨g, 0, none⟩))
  | .func f => some (.func (.func f) #[] #[])

/-- What an act knows. -/
def Knows (a : Act) (E : Env) : Prop := ∀ t v, look E t = some v → a.tmps.getD t undef = v

structure Agree (N : Nat) (D : List Deferred) (a : Act) (E : Env) : Prop where
  size : a.tmps.size = N
  defers : a.defers = D
  knows : Knows a E

theorem Knows.ev {a : Act} {E : Env} (h : Knows a E) {x : Operand} {v : Value} (hx : ev E x = some v) : a.eval x = v := by
  cases x with
  | tmp t => exact h t v hx
  | const u => simpa [Gx.ev, Act.eval] using hx
  | global g => simpa [Gx.ev, Act.eval] using hx
  | func f => simpa [Gx.ev, Act.eval] using hx

def putE (dst : Option Nat) (v : Value) (E : Env) : Env :=
  match dst with
  | some d => (d, v) :: E
  | none => E

def dstOK (N : Nat) (o : Oper) : Bool :=
  match o.dst with
  | some d => Nat.blt d N
  | none => true

theorem Agree.put {N : Nat} {D : List Deferred} {a : Act} {E : Env} {o : Oper} (h : Agree N D a E) (hd : dstOK N o = true) (v : Value) : Agree N D (a.put o.dst v) (putE o.dst v E) := by
  unfold dstOK at hd
  cases ho : o.dst with
  | none => exact h
  | some d =>
    rw [ho] at hd
    have hlt : d < N := by simpa [Nat.blt_eq] using hd
    refine ⟨by simp [Act.put, h.size], h.defers, ?_⟩
    intro t u hu
    simp only [putE, look] at hu
    cases hb : Nat.beq d t with
    | true =>
      have e : d = t := Nat.eq_of_beq_eq_true hb
      subst e
      simp only [hb] at hu
      injection hu with hu
      subst hu
      simp [Act.put, h.size, hlt]
    | false =>
      simp only [hb] at hu
      have hne : d ≠ t := by intro e; subst e; simp at hb
      have := h.knows t u hu
      simpa [Act.put, Array.getElem?_setIfInBounds_ne hne] using this

theorem Agree.sub {N : Nat} {D : List Deferred} {a : Act} {E E' : Env} (h : Agree N D a E) (hs : ∀ t v, look E' t = some v → look E t = some v) : Agree N D a E' :=
  ⟨h.size, h.defers, fun t v hv => h.knows t v (hs t v hv)⟩

/-- E' is known where E is. -/
def Sub (E' E : Env) : Prop := ∀ t v, look E' t = some v → look E t = some v
theorem Sub.nil {E : Env} : Sub [] E := fun _ _ h => by cases h
theorem Sub.cons {E E' : Env} {t : Nat} {v : Value} (h : look E t = some v) (hs : Sub E' E) : Sub ((t, v) :: E') E := fun s u hu => by
  simp only [look] at hu
  cases hb : Nat.beq t s with
  | true =>
    have e : t = s := Nat.eq_of_beq_eq_true hb
    subst e
    simp only [hb] at hu
    injection hu with hu
    subst hu
    exact h
  | false => simp only [hb] at hu; exact hs s u hu

section
variable {ρ : Option Nat} {P : Program} {N : Nat} {D : List Deferred} {ops : Array Oper} {Q : Exit → Act → World → Prop}

/-- A quiet operation: in every world that meets S it yields v and leaves the world as it is. -/
def Qt (P : Program) (S : World → Prop) (E : Env) (o : Oper) (v : Value) : Prop :=
  ∀ a : Act, Knows a E → ∀ w, S w → (execOp a.eval o).run P w = .ok (.value v) w

/-- Every machine is let in; which round the frame is of, if any. -/
def FW (ρ : Option Nat) : Fence := { Fence.wide with round := ρ }

theorem semAt_value {ρ : Option Nat} {o : Oper} {a : Act} {w w' : World} {v : Value} (h : (execOp a.eval o).run P w = .ok (.value v) w') : (o.semAt ρ a.eval).run P w = .ok (.value v) w' := by
  by_cases hd : ∃ c, o.op = .defer c
  · obtain ⟨c, hc⟩ := hd
    exfalso
    simp only [execOp, hc, Sem.run_bind] at h
    generalize (resolve a.eval c o.type).run P w = r at h
    cases r with
    | ok d w1 => simp only [Result.andThen_ok, Sem.run_pure, Result.ok.injEq] at h; exact nomatch h.1
    | halt x w1 => simp [Result.andThen] at h
  · rw [Oper.semAt_eq ρ _ o (fun c hc => hd ⟨c, hc⟩)]; exact h
theorem semAt_skip {ρ : Option Nat} {o : Oper} {a : Act} {w w' : World} (h : (execOp a.eval o).run P w = .ok .skip w') : (o.semAt ρ a.eval).run P w = .ok .skip w' := by
  by_cases hd : ∃ c, o.op = .defer c
  · obtain ⟨c, hc⟩ := hd
    exfalso
    simp only [execOp, hc, Sem.run_bind] at h
    generalize (resolve a.eval c o.type).run P w = r at h
    cases r with
    | ok d w1 => simp only [Result.andThen_ok, Sem.run_pure, Result.ok.injEq] at h; exact nomatch h.1
    | halt x w1 => simp [Result.andThen] at h
  · rw [Oper.semAt_eq ρ _ o (fun c hc => hd ⟨c, hc⟩)]; exact h

theorem wpIn_value {ρ : Option Nat} {o : Oper} {a : Act} {w w' : World} {v : Value} {K : Act → World → Prop} (h : (execOp a.eval o).run P w = .ok (.value v) w') (hK : K (a.put o.dst v) w') : o.wpIn (FW ρ) 0 P a w K Q := by
  refine ⟨fun _ _ => trivial, ?_⟩
  rw [semAt_value h]; exact hK
theorem wpIn_skipV {ρ : Option Nat} {o : Oper} {a : Act} {w w' : World} {K : Act → World → Prop} (h : (execOp a.eval o).run P w = .ok .skip w') (hK : K (a.put o.dst undef) w') : o.wpIn (FW ρ) 0 P a w K Q := by
  refine ⟨fun _ _ => trivial, ?_⟩
  rw [semAt_skip h]; exact hK

/-- An operation with an effect: its value and the world behind it meet R. -/
def Ef (P : Program) (N : Nat) (D : List Deferred) (E : Env) (w : World) (o : Oper) (R : Value → World → Prop) : Prop :=
  ∀ (ρ : Option Nat) (a : Act), Agree N D a E → ∀ (K : Act → World → Prop) (Q : Exit → Act → World → Prop), (∀ v w', R v w' → K (a.put o.dst v) w') → o.wpIn (FW ρ) 0 P a w K Q

/-- The guard of an operation says yes, says no. -/
def Runs (ops : Array Oper) (E : Env) (o : Oper) : Prop := ∀ a : Act, Knows a E → Region.wanted o (yielded ops a.tmps) = true
def Skips (ops : Array Oper) (E : Env) (o : Oper) : Prop := ∀ a : Act, Knows a E → Region.wanted o (yielded ops a.tmps) = false

theorem Runs.plain {E : Env} {o : Oper} (h : o.guard = none) : Runs ops E o := fun a _ => by simp [Region.wanted, h]

theorem yielded_of {E : Env} {a : Act} (ha : Knows a E) {j t : Nat} {b : Bool} (hj : (ops[j]?).bind (·.dst) = some t) (hb : look E t = some (.bool b)) : yielded ops a.tmps j = some b := by
  have h1 := ha t _ hb
  unfold yielded
  cases ho : ops[j]? with
  | none => rw [ho] at hj; cases hj
  | some o =>
    rw [ho] at hj
    simp only [Option.bind_some] at hj ⊢
    rw [hj]
    simp only [Option.bind_some]
    simp only [Array.getD_eq_getD_getElem?] at h1
    cases hq : a.tmps[t]? with
    | none => rw [hq] at h1; simp [undef] at h1
    | some u => rw [hq] at h1; simp at h1; subst h1; rfl

theorem Runs.guard {E : Env} {o : Oper} {j t : Nat} {want b : Bool} (h : o.guard = some (j, want)) (hj : (ops[j]?).bind (·.dst) = some t) (hb : look E t = some (.bool b)) (e : b = want) : Runs ops E o := fun a ha => by
  subst e
  simp [Region.wanted, h, yielded_of ha hj hb]

theorem Skips.guard {E : Env} {o : Oper} {j t : Nat} {want b : Bool} (h : o.guard = some (j, want)) (hj : (ops[j]?).bind (·.dst) = some t) (hb : look E t = some (.bool b)) (e : b = !want) : Skips ops E o := fun a ha => by
  subst e
  cases want <;> simp [Region.wanted, h, yielded_of ha hj hb]

/-! ### Code under an environment -/

/-- From code c on. -/
def RC (ρ : Option Nat) (P : Program) (N : Nat) (D : List Deferred) (Q : Exit → Act → World → Prop) (c : Code) (E : Env) (w : World) : Prop :=
  ∀ a, Agree N D a E → c.wpIn (FW ρ) 0 P Q a w

/-- An exit reached. -/
def RE (N : Nat) (D : List Deferred) (Q : Exit → Act → World → Prop) (e : Exit) (E : Env) (w : World) : Prop :=
  ∀ a, Agree N D a E → Q e a w

/-- A plain region from a list of operations on. -/
def RL (ρ : Option Nat) (P : Program) (N : Nat) (D : List Deferred) (ops : Array Oper) (Q : Exit → Act → World → Prop) (l : List Oper) (E : Env) (w : World) : Prop :=
  l.all (dstOK N) = true → ∀ a, Agree N D a E → wpListIn (FW ρ) 0 P ops Q l a w

theorem RC.sub {c : Code} {E E' : Env} {w : World} (hs : Sub E' E) (h : RC ρ P N D Q c E' w) : RC ρ P N D Q c E w := fun a ha => h a (ha.sub hs)
theorem RE.sub {e : Exit} {E E' : Env} {w : World} (hs : Sub E' E) (h : RE N D Q e E' w) : RE N D Q e E w := fun a ha => h a (ha.sub hs)

def sq (ρ : Option Nat) (P : Program) (c : Code) (Q : Exit → Act → World → Prop) : Exit → Act → World → Prop := Exit.then (c.wpIn (FW ρ) 0 P Q) Q
def bk (id : Nat) (Q : Exit → Act → World → Prop) : Exit → Act → World → Prop := Exit.inBlock id Q

theorem RC.seq {c d : Code} {E : Env} {w : World} (h : RC ρ P N D (sq ρ P d Q) c E w) : RC ρ P N D Q (.seq c d) E w := fun a ha => wpIn_seq (h a ha)
theorem RC.block {id : Nat} {c : Code} {E : Env} {w : World} (h : RC ρ P N D (bk id Q) c E w) : RC ρ P N D Q (.block id c) E w := fun a ha => wpIn_block (h a ha)
theorem RC.skip {E : Env} {w : World} (h : RE N D Q .normal E w) : RC ρ P N D Q .skip E w := fun a ha => wpIn_skip (h a ha)
theorem RC.ret {E : Env} {w : World} (h : RE N D Q .ret E w) : RC ρ P N D Q .ret E w := fun a ha => wpIn_ret (h a ha)
theorem RC.exit {id : Nat} {E : Env} {w : World} (h : RE N D Q (.exit id) E w) : RC ρ P N D Q (.exit id) E w := fun a ha => wpIn_exit (h a ha)
theorem RC.condT {c : Operand} {x y : Code} {E : Env} {w : World} {t : Bool} (hc : ev E c = some (.bool t)) (ht : t = true) (h : RC ρ P N D Q x E w) : RC ρ P N D Q (.cond c x y) E w :=
  fun a ha => wpIn_cond_true (by rw [ha.knows.ev hc, ht]) (h a ha)
theorem RC.condF {c : Operand} {x y : Code} {E : Env} {w : World} {t : Bool} (hc : ev E c = some (.bool t)) (ht : t = false) (h : RC ρ P N D Q y E w) : RC ρ P N D Q (.cond c x y) E w :=
  fun a ha => wpIn_cond_false (by rw [ha.knows.ev hc, ht]) (h a ha)
theorem RC.cond {c : Operand} {x y : Code} {E : Env} {w : World} {t : Bool} (hc : ev E c = some (.bool t)) (h1 : t = true → RC ρ P N D Q x E w) (h2 : t = false → RC ρ P N D Q y E w) : RC ρ P N D Q (.cond c x y) E w := by
  cases t with
  | true => exact RC.condT hc rfl (h1 rfl)
  | false => exact RC.condF hc rfl (h2 rfl)
/-- A condition on a decided proposition. -/
theorem RC.condP {c : Operand} {x y : Code} {E : Env} {w : World} {p : Prop} [Decidable p] (hc : ev E c = some (.bool (decide p))) (h1 : p → RC ρ P N D Q x E w) (h2 : ¬ p → RC ρ P N D Q y E w) : RC ρ P N D Q (.cond c x y) E w :=
  RC.cond hc (fun h => h1 (of_decide_eq_true h)) (fun h => h2 (of_decide_eq_false h))

theorem RE.sqN {c : Code} {E : Env} {w : World} (h : RC ρ P N D Q c E w) : RE N D (sq ρ P c Q) .normal E w := fun a ha => h a ha
theorem RE.sqX {c : Code} {id : Nat} {E : Env} {w : World} (h : RE N D Q (.exit id) E w) : RE N D (sq ρ P c Q) (.exit id) E w := fun a ha => h a ha
theorem RE.sqR {c : Code} {E : Env} {w : World} (h : RE N D Q .ret E w) : RE N D (sq ρ P c Q) .ret E w := fun a ha => h a ha
theorem RE.bkN {id : Nat} {E : Env} {w : World} (h : RE N D Q .normal E w) : RE N D (bk id Q) .normal E w := fun a ha => h a ha
theorem RE.bkX {id : Nat} {E : Env} {w : World} (h : RE N D Q .normal E w) : RE N D (bk id Q) (.exit id) E w := fun a ha => by
  simp only [bk, Exit.inBlock, if_true]; exact h a ha
theorem RE.bkY {id id' : Nat} {E : Env} {w : World} (hne : (id' == id) = false) (h : RE N D Q (.exit id') E w) : RE N D (bk id Q) (.exit id') E w := fun a ha => by
  have : id' ≠ id := by simpa using hne
  simp only [bk, Exit.inBlock, if_neg this]; exact h a ha
theorem RE.bkR {id : Nat} {E : Env} {w : World} (h : RE N D Q .ret E w) : RE N D (bk id Q) .ret E w := fun a ha => h a ha

/-- A loop: an invariant over a ghost, and a measure. -/
def lp (N : Nat) (D : List Deferred) {γ : Type} (I : γ → Env → World → Prop) (m : γ → Nat) (g : γ) (Q : Exit → Act → World → Prop) : Exit → Act → World → Prop :=
  Exit.then (fun a w => ∃ n', n' < m g ∧ ∃ g' E', Agree N D a E' ∧ I g' E' w ∧ m g' = n') Q
theorem RE.lpN {γ : Type} {I : γ → Env → World → Prop} {m : γ → Nat} {g : γ} {E : Env} {w : World} (g' : γ) (E' : Env) (hs : Sub E' E) (hI : I g' E' w) (hm : m g' < m g) : RE N D (lp N D I m g Q) .normal E w :=
  fun _ ha => ⟨m g', hm, g', E', ha.sub hs, hI, rfl⟩
theorem RE.lpX {γ : Type} {I : γ → Env → World → Prop} {m : γ → Nat} {g : γ} {id : Nat} {E : Env} {w : World} (h : RE N D Q (.exit id) E w) : RE N D (lp N D I m g Q) (.exit id) E w := fun a ha => h a ha
theorem RE.lpR {γ : Type} {I : γ → Env → World → Prop} {m : γ → Nat} {g : γ} {E : Env} {w : World} (h : RE N D Q .ret E w) : RE N D (lp N D I m g Q) .ret E w := fun a ha => h a ha

theorem RC.loop {γ : Type} (I : γ → Env → World → Prop) (m : γ → Nat) (g0 : γ) (E0 : Env) {c : Code} {E : Env} {w : World} (hs : Sub E0 E) (h0 : I g0 E0 w)
    (round : ∀ g E w, I g E w → RC ρ P N D (lp N D I m g Q) c E w) : RC ρ P N D Q (.loop c) E w := fun a ha => by
  refine wpIn_loop_ghost (fun n a w => ∃ g E, Agree N D a E ∧ I g E w ∧ m g = n) (m g0) ⟨g0, E0, ha.sub hs, h0, rfl⟩ ?_
  rintro n a1 w1 ⟨g, E1, hag, hI, rfl⟩
  exact round g E1 w1 hI a1 hag

/-! ### Regions, plain -/
theorem RC.region {id : Nat} {l : List Oper} {E : Env} {w : World} (hd : l.all (dstOK N) = true) (h : RL ρ P N D l.toArray Q l E w) : RC ρ P N D Q (.region id l.toArray false) E w :=
  fun a ha => wpIn_region_lit (h hd a ha)
theorem RL.nil {E : Env} {w : World} (h : RE N D Q .normal E w) : RL ρ P N D ops Q [] E w := fun _ a ha => h a ha
theorem RL.q {d : Nat} {op : Op} {ty : TypeId} {pos : String} {af : Array Edge} {g : Option (Nat × Bool)} {l : List Oper} {E : Env} {w : World} {v : Value} (hq : Qt P (fun w' => w'.heap = w.heap) E ⟨some d, op, ty, pos, af, g⟩ v) (h : RL ρ P N D ops Q l ((d, v) :: E) w)
    (hr : Runs ops E ⟨some d, op, ty, pos, af, g⟩ := by exact Runs.plain rfl) : RL ρ P N D ops Q (⟨some d, op, ty, pos, af, g⟩ :: l) E w := fun hd a ha => by
  simp only [List.all_cons, Bool.and_eq_true] at hd
  unfold wpListIn
  rw [if_pos (hr a ha.knows)]
  exact wpIn_value (hq a ha.knows w rfl) (h hd.2 _ (ha.put hd.1 v))
theorem RL.e {d : Nat} {op : Op} {ty : TypeId} {pos : String} {af : Array Edge} {g : Option (Nat × Bool)} {l : List Oper} {E : Env} {w : World} {R : Value → World → Prop} (he : Ef P N D E w ⟨some d, op, ty, pos, af, g⟩ R) (h : ∀ v w', R v w' → RL ρ P N D ops Q l ((d, v) :: E) w')
    (hr : Runs ops E ⟨some d, op, ty, pos, af, g⟩ := by exact Runs.plain rfl) : RL ρ P N D ops Q (⟨some d, op, ty, pos, af, g⟩ :: l) E w := fun hd a ha => by
  simp only [List.all_cons, Bool.and_eq_true] at hd
  unfold wpListIn
  rw [if_pos (hr a ha.knows)]
  exact he ρ a ha _ _ fun v w' hR => h v w' hR hd.2 _ (ha.put hd.1 v)
theorem RL.e0 {op : Op} {ty : TypeId} {pos : String} {af : Array Edge} {g : Option (Nat × Bool)} {l : List Oper} {E : Env} {w : World} {R : Value → World → Prop} (he : Ef P N D E w ⟨none, op, ty, pos, af, g⟩ R) (h : ∀ v w', R v w' → RL ρ P N D ops Q l E w')
    (hr : Runs ops E ⟨none, op, ty, pos, af, g⟩ := by exact Runs.plain rfl) : RL ρ P N D ops Q (⟨none, op, ty, pos, af, g⟩ :: l) E w := fun hd a ha => by
  simp only [List.all_cons, Bool.and_eq_true] at hd
  unfold wpListIn
  rw [if_pos (hr a ha.knows)]
  exact he ρ a ha _ _ fun v w' hR => h v w' hR hd.2 _ (ha.put hd.1 v)
theorem RL.s {o : Oper} {l : List Oper} {E : Env} {w : World} (hs : Skips ops E o) (h : RL ρ P N D ops Q l (putE o.dst undef E) w) : RL ρ P N D ops Q (o :: l) E w := fun hd a ha => by
  simp only [List.all_cons, Bool.and_eq_true] at hd
  unfold wpListIn
  rw [if_neg (by simp [hs a ha.knows])]
  exact ⟨fun _ _ => trivial, h hd.2 _ (ha.put hd.1 undef)⟩


theorem RL.split {t : Nat} {b : Bool} {l : List Oper} {E : Env} {w : World} (h1 : b = true → RL ρ P N D ops Q l E w) (h2 : b = false → RL ρ P N D ops Q l E w) : RL ρ P N D ops Q l E w := by
  cases b with
  | true => exact h1 rfl
  | false => exact h2 rfl

/-! ### A guarded piece of quiet operations: what is known under the guard -/
def RLG (ρ : Option Nat) (P : Program) (N : Nat) (D : List Deferred) (ops : Array Oper) (Q : Exit → Act → World → Prop) (l : List Oper) (b0 want : Bool) (G E : Env) (w : World) : Prop :=
  l.all (dstOK N) = true → ∀ a, Agree N D a E → (b0 = want → Knows a G) → wpListIn (FW ρ) 0 P ops Q l a w
def fresh (E : Env) (o : Oper) : Bool :=
  match o.dst with
  | some d => (look E d).isNone
  | none => true
theorem Agree.keep {a : Act} {E : Env} {o : Oper} (h : Agree N D a E) (hf : fresh E o = true) (hd : dstOK N o = true) (v : Value) : Agree N D (a.put o.dst v) E := by
  have h1 := h.put hd v
  refine ⟨h1.size, h1.defers, fun t u hu => ?_⟩
  unfold fresh at hf
  cases ho : o.dst with
  | none => simpa [ho, Act.put] using h.knows t u hu
  | some d =>
    rw [ho] at hf
    have hne : d ≠ t := by
      intro e
      subst e
      change (look E d).isNone = true at hf
      rw [hu] at hf
      simp at hf
    have := h.knows t u hu
    simpa [Act.put, Array.getElem?_setIfInBounds_ne hne] using this
theorem RLG.start {l : List Oper} (t : Nat) (want : Bool) {b0 : Bool} {E : Env} {w : World} (_hb : look E t = some (.bool b0)) (h : RLG ρ P N D ops Q l b0 want E E w) : RL ρ P N D ops Q l E w := fun hd a ha => h hd a ha fun _ => ha.knows
theorem RLG.q {d : Nat} {op : Op} {ty : TypeId} {pos : String} {af : Array Edge} {l : List Oper} {G E : Env} {w : World} {v : Value} {j t : Nat} {want b0 : Bool} (hj : (ops[j]?).bind (·.dst) = some t) (hb : look E t = some (.bool b0)) (hf : fresh E ⟨some d, op, ty, pos, af, some (j, want)⟩ = true)
    (hq : b0 = want → Qt P (fun w' => w'.heap = w.heap) G ⟨some d, op, ty, pos, af, some (j, want)⟩ v) (h : RLG ρ P N D ops Q l b0 want ((d, v) :: G) E w) : RLG ρ P N D ops Q (⟨some d, op, ty, pos, af, some (j, want)⟩ :: l) b0 want G E w := fun hd a ha hG => by
  have hg : (⟨some d, op, ty, pos, af, some (j, want)⟩ : Oper).guard = some (j, want) := rfl
  simp only [List.all_cons, Bool.and_eq_true] at hd
  unfold wpListIn
  by_cases hw : b0 = want
  · rw [if_pos (Runs.guard hg hj hb hw a ha.knows)]
    have hk := hG hw
    exact wpIn_value (hq hw a hk w rfl) (h hd.2 _ (ha.keep hf hd.1 v) fun _ => (Agree.put (D := D) ⟨ha.size, ha.defers, hk⟩ hd.1 v).knows)
  · rw [if_neg (by rw [Skips.guard hg hj hb (by cases b0 <;> cases want <;> simp at hw ⊢) a ha.knows]; simp)]
    exact ⟨fun _ _ => trivial, h hd.2 _ (ha.keep hf hd.1 undef) fun h => absurd h hw⟩

theorem run_pick {a : Act} {w : World} {d : Option Nat} {c x y : Operand} {b : Bool} {ty : TypeId} {pos : String} {af : Array Edge} {g : Option (Nat × Bool)} (hc : a.eval c = .bool b) :
    (execOp a.eval ⟨d, .pick c x y, ty, pos, af, g⟩).run P w = .ok (.value (if b then a.eval x else a.eval y)) w := by
  simp [execOp, hc, asBool]
/-- 'x && y': the pick behind the guarded piece. -/
theorem RLG.and {l : List Oper} {b c : Bool} {G E : Env} {w : World} {d : Nat} {cn x : Operand} {ty : TypeId} {pos : String} {af : Array Edge} (hc : ev E cn = some (.bool b)) (hx : ev G x = some (.bool c))
    (h : RL ρ P N D ops Q l ((d, .bool (b && c)) :: E) w) : RLG ρ P N D ops Q (⟨some d, .pick cn x (.const (.bool false)), ty, pos, af, none⟩ :: l) b true G E w := fun hd a ha hG => by
  simp only [List.all_cons, Bool.and_eq_true] at hd
  unfold wpListIn
  rw [if_pos (by simp [Region.wanted])]
  refine wpIn_value (run_pick (ha.knows.ev hc)) ?_
  have hv : (if b = true then a.eval x else a.eval (.const (.bool false))) = .bool (b && c) := by
    cases b with
    | true => simp [(hG rfl).ev hx]
    | false => simp [Act.eval]
  rw [hv]
  exact h hd.2 _ (ha.put hd.1 _)
/-- 'x || y': the pick behind the guarded piece; the piece runs where x is false. -/
theorem RLG.or {l : List Oper} {b c : Bool} {G E : Env} {w : World} {d : Nat} {cn y : Operand} {ty : TypeId} {pos : String} {af : Array Edge} (hc : ev E cn = some (.bool b)) (hy : ev G y = some (.bool c))
    (h : RL ρ P N D ops Q l ((d, .bool (b || c)) :: E) w) : RLG ρ P N D ops Q (⟨some d, .pick cn (.const (.bool true)) y, ty, pos, af, none⟩ :: l) b false G E w := fun hd a ha hG => by
  simp only [List.all_cons, Bool.and_eq_true] at hd
  unfold wpListIn
  rw [if_pos (by simp [Region.wanted])]
  refine wpIn_value (run_pick (ha.knows.ev hc)) ?_
  have hv : (if b = true then a.eval (.const (.bool true)) else a.eval y) = .bool (b || c) := by
    cases b with
    | true => simp [Act.eval]
    | false => simp [(hG rfl).ev hy]
  rw [hv]
  exact h hd.2 _ (ha.put hd.1 _)

/-! ### Regions that draw: a head in whatever order, under a condition S on the world, and a tail in one order -/

/-- The head of a drawn region: whatever order is picked, S holds behind each operation that is carried out; then L. -/
def wpM (ρ : Option Nat) (P : Program) (md : Region.Mode) (ops : Array Oper) (Q : Exit → Act → World → Prop) (S : World → Prop) (n : Nat) (L : Array Bool → Act → World → Prop) : Nat → Array Bool → Act → World → Prop
  | 0, listed, a, w => L listed a w
  | f + 1, listed, a, w => Region.ready md ops listed ≠ [] ∧ ∀ i ∈ Region.ready md ops listed, i < n ∧ wpOpIn (FW ρ) 0 P ops Q i (fun a' w' => S w' ∧ wpM ρ P md ops Q S n L f (listed.setIfInBounds i true) a' w') a w

theorem wpAny_of_M {md : Region.Mode} {S : World → Prop} {n g : Nat} {L : Array Bool → Act → World → Prop} (hL : ∀ listed a w, L listed a w → wpAnyIn (FW ρ) 0 P md ops Q g listed a w) :
    ∀ (f : Nat) (listed : Array Bool) (a : Act) (w : World), wpM ρ P md ops Q S n L f listed a w → wpAnyIn (FW ρ) 0 P md ops Q (f + g) listed a w
  | 0, listed, a, w, h => by rw [Nat.zero_add]; exact hL _ _ _ h
  | f + 1, listed, a, w, h => by
    rw [show f + 1 + g = (f + g) + 1 by omega]
    exact ⟨fun h0 => absurd h0 h.1, fun i hi => wpOpIn_mono (fun a' w' h' => wpAny_of_M hL f _ a' w' h'.2) (h.2 i hi).2⟩

/-- No operation of the region is a defer statement. -/
def NoDefer (ops : Array Oper) : Prop := ∀ (j : Nat) (o : Oper), ops[j]? = some o → ∀ c, o.op ≠ .defer c
def noDeferB (ops : Array Oper) : Bool := ops.all fun o => match o.op with | .defer _ => false | _ => true
theorem noDefer_of {ops : Array Oper} (h : noDeferB ops = true) : NoDefer ops := fun j o ho c hc => by
  have := Array.all_eq_true_iff_forall_mem.1 h o (Array.mem_of_getElem? ho)
  rw [hc] at this
  cases this

theorem yieldsIf_wpOpIn {S : World → Prop} {i : Nat} {o : Oper} {v : Value} {a : Act} (hi : ops[i]? = some o) (hy : YieldsIf P ops S o v a) {K : Act → World → Prop} {w : World} (hS : S w) (h : K (a.put o.dst v) w) : wpOpIn (FW ρ) 0 P ops Q i K a w := by
  unfold wpOpIn
  simp only [hi]
  rcases hy with ⟨hw, hv⟩ | ⟨hw, rfl⟩
  · rw [if_pos hw]; exact wpIn_value (hv w hS) h
  · rw [if_neg (by simp [hw])]; exact ⟨fun _ _ => trivial, h⟩

theorem wpOpIn_putIf {S : World → Prop} {j : Nat} {oi oj : Oper} {v : Value} (hj : ops[j]? = some oj) (hap : oi.apart ops oj = true) (hnd : ∀ c, oj.op ≠ .defer c)
    (hsi : ∀ cs b, oi.op ≠ .select cs b) (hsj : ∀ cs b, oj.op ≠ .select cs b)
    (hQ : ∀ c a w, Q (.panic c) (a.put oi.dst v) w → Q (.panic c) a w) {K : Act → World → Prop} {a : Act} {w : World}
    (hy : YieldsIf P ops S oi v a) (h : wpOpIn (FW ρ) 0 P ops Q j K (a.put oi.dst v) w) :
    wpOpIn (FW ρ) 0 P ops Q j (fun a' w' => YieldsIf P ops S oi v a' ∧ K (a'.put oi.dst v) w') a w := by
  obtain ⟨h1, h2, h3⟩ := Oper.apart_spec hap
  have keep : ∀ (a : Act), YieldsIf P ops S oi v a → ∀ u, YieldsIf P ops S oi v (a.put oj.dst u) := fun a hy u =>
    hy.of_same (execOp_put oi hsi a oj.dst u h3) (wanted_put oi a oj.dst u h3)
  have keepD : ∀ d, YieldsIf P ops S oi v { a with defers := d :: a.defers } := fun d => hy.of_same rfl rfl
  unfold wpOpIn at *
  simp only [hj] at *
  rw [wanted_put oj a oi.dst v h1] at h
  by_cases hw : Region.wanted oj (yielded ops a.tmps) = true
  · rw [if_pos hw] at h ⊢
    refine ⟨fun _ _ => trivial, ?_⟩
    have h := h.2
    rw [Oper.semAt_eq _ _ oj hnd, execOp_put oj hsj a oi.dst v h1] at h
    rw [Oper.semAt_eq _ _ oj hnd]
    generalize (execOp a.eval oj).run P w = r at *
    cases r with
    | ok x w' =>
      cases x <;> simp only [Oper.uponIn] at h ⊢
      case value u => exact ⟨keep a hy u, by rw [← Act.put_comm a v u h2]; exact h⟩
      case skip => exact ⟨keep a hy _, by rw [← Act.put_comm a v undef h2]; exact h⟩
      case defer d =>
        refine ⟨keep _ (keepD d) _, ?_⟩
        rw [← Act.put_comm _ v undef h2, ← Act.put_defers]
        exact h
      case enter f args =>
        refine ⟨h.1, CallsIn.mono h.2 fun e w'' he => ?_⟩
        cases e with
        | returned u => exact ⟨keep a hy u, by rw [← Act.put_comm a v u h2]; exact he⟩
        | panicked c => exact hQ _ _ _ he
        | outgrown => exact he
      case row row args => exact ⟨h.1, RowsIn.mono h.2 fun u w'' he => ⟨keep a hy u, by rw [← Act.put_comm a v u h2]; exact he⟩⟩
      case round l f tmps assign body =>
        refine ⟨h.1, RoundIn.mono h.2 fun e w'' he => ?_⟩
        cases e with
        | returned u => exact ⟨keep a hy u, by rw [← Act.put_comm a v u h2]; exact he⟩
        | panicked c => exact hQ _ _ _ he
        | outgrown => exact he
    | halt x w' =>
      cases x <;> simp only [Oper.uponIn] at h ⊢
      case panic u => exact hQ _ _ _ h
  · rw [if_neg hw] at h ⊢
    exact ⟨fun _ _ => trivial, keep a hy _, by rw [← Act.put_comm a v undef h2]; exact h.2⟩

theorem wpAnyIn_of_seq {md : Region.Mode} : ∀ (l : List Oper) (k : Nat) (listed : Array Bool) (a : Act) (w : World), (∀ j, l[j]? = ops[k + j]?) →
    Region.seqB md ops l.length k listed = true → wpListIn (FW ρ) 0 P ops Q l a w → wpAnyIn (FW ρ) 0 P md ops Q l.length listed a w
  | [], _, _, _, _, _, hB, h => ⟨by simpa [Region.seqB] using hB, h⟩
  | o :: l, k, listed, a, w, hl, hB, h => by
    have h0 : ops[k]? = some o := by simpa using (hl 0).symm
    simp only [List.length_cons, Region.seqB, Bool.and_eq_true, decide_eq_true_eq] at hB
    refine ⟨fun h1 => (by rw [hB.1] at h1; cases h1), fun i hi => ?_⟩
    rw [hB.1] at hi
    have hik : i = k := by simpa using hi
    subst hik
    have hw : wpOpIn (FW ρ) 0 P ops Q i (wpListIn (FW ρ) 0 P ops Q l) a w := by unfold wpOpIn; simp only [h0]; exact h
    exact wpOpIn_mono (fun a' w' h' => wpAnyIn_of_seq l (i + 1) _ a' w' (fun j => by have := hl (j + 1); simpa [Nat.add_assoc, Nat.add_comm 1 j] using this) hB.2 h') hw

/-- How the tail hangs on the head. -/
def TailOK (md : Region.Mode) (ops : Array Oper) (n : Nat) : Prop :=
  n = ops.size ∨ (Region.sinkB md ops n = true ∧ Region.chainB md ops n = true ∧ n < ops.size)

theorem tail_not_ready {md : Region.Mode} {n i t : Nat} {listed : Array Bool} (ht : TailOK md ops n) (inv : HeadInv md ops n listed) (hi : i < n) (hun : listed.getD i true = false) (hr : t ∈ Region.ready md ops listed) : t < n := by
  rcases ht with h | ⟨hs, hc, hn⟩
  · obtain ⟨_, o, ho, _⟩ := mem_ready.1 hr
    have := (Array.getElem?_eq_some_iff.1 ho).1
    omega
  · rcases Nat.lt_or_ge t n with h | h
    · exact h
    · exact absurd hr (tail_waits hs hc hn inv _ i rfl hi hun t h)

theorem wpM_first {md : Region.Mode} {S : World → Prop} {n i : Nat} {oi : Oper} {v : Value} {L : Array Bool → Act → World → Prop} (hi : ops[i]? = some oi) (hnd : NoDefer ops)
    (hsel : ∀ (j : Nat) (o : Oper) cs b, ops[j]? = some o → o.op ≠ .select cs b)
    (hQ : ∀ c a w, Q (.panic c) (a.put oi.dst v) w → Q (.panic c) a w) (htl : TailOK md ops n) (hin : i < n)
    (hdone : ∀ listed a w, L listed a w → ∀ j ∈ Region.ready md ops listed, n ≤ j) :
    ∀ (f : Nat) (listed : Array Bool) (a : Act) (w : World), HeadInv md ops n listed →
      (∀ j oj, ops[j]? = some oj → j ≠ i → listed.getD j true = false → (∀ e ∈ oj.after, Region.binds md e = true → e.on ≠ i) → oi.apart ops oj = true) →
      i ∈ Region.ready md ops listed → YieldsIf P ops S oi v a → S w →
      wpM ρ P md ops Q S n L f (listed.setIfInBounds i true) (a.put oi.dst v) w → wpM ρ P md ops Q S n L (f + 1) listed a w := by
  intro f
  induction f with
  | zero =>
    intro listed a w inv _ hr hy hS H
    have hun := (mem_ready.1 hr).1
    refine ⟨fun h => (by rw [h] at hr; cases hr), fun j hj => ?_⟩
    have hjn := tail_not_ready htl inv hin hun hj
    refine ⟨hjn, ?_⟩
    by_cases hji : j = i
    · subst hji; exact yieldsIf_wpOpIn hi hy hS ⟨hS, H⟩
    · have := hdone _ _ _ H j (ready_mono hj hji)
      omega
  | succ f ih =>
    intro listed a w inv hfree hr hy hS H
    have hun := (mem_ready.1 hr).1
    refine ⟨fun h => (by rw [h] at hr; cases hr), fun j hj => ?_⟩
    have hjn := tail_not_ready htl inv hin hun hj
    refine ⟨hjn, ?_⟩
    by_cases hji : j = i
    · subst hji; exact yieldsIf_wpOpIn hi hy hS ⟨hS, H⟩
    · have h1 := (H.2 j (ready_mono hj hji)).2
      obtain ⟨hjun, oj, hoj, hall⟩ := mem_ready.1 hj
      have hnot : ∀ e ∈ oj.after, Region.binds md e = true → e.on ≠ i := fun e he hb heq => by
        have h1 := hall e he hb
        rw [heq, getD_both hun] at h1
        cases h1
      have h2 := wpOpIn_putIf hoj (hfree j oj hoj hji hjun hnot) (hnd j oj hoj) (fun cs b => hsel i oi cs b hi) (fun cs b => hsel j oj cs b hoj) hQ hy h1
      have hfree' : ∀ k ok, ops[k]? = some ok → k ≠ i → (listed.setIfInBounds j true).getD k true = false →
          (∀ e ∈ ok.after, Region.binds md e = true → e.on ≠ i) → oi.apart ops ok = true := fun k ok hk hki hun hno => by
        refine hfree k ok hk hki ?_ hno
        by_cases hjk : j = k
        · subst hjk; exact hjun
        · rw [getD_set_ne true hjk] at hun; exact hun
      refine wpOpIn_mono (fun a' w' h3 => ⟨h3.2.1, ih (listed.setIfInBounds j true) a' w' (inv.set hj hjn) hfree' (ready_mono hr (Ne.symm hji)) h3.1 h3.2.1 ?_⟩) h2
      rw [Array.setIfInBounds_comm _ _ hji]
      exact h3.2.2

/-- The state of a drawn region in which the head's operations of the list l are still to come, in the order in which the proof takes them. -/
def listedBut (ops : Array Oper) (n : Nat) (l : List Nat) : Array Bool := (List.range ops.size).toArray.map fun i => decide (i < n) && !l.contains i

/-- Post of a head: the tail, in one order. -/
def tailL (ρ : Option Nat) (P : Program) (ops : Array Oper) (Q : Exit → Act → World → Prop) (n : Nat) (tl : List Oper) (listed : Array Bool) (a : Act) (w : World) : Prop :=
  Region.seqB .any ops tl.length n listed = true ∧ wpListIn (FW ρ) 0 P ops Q tl a w

def RH (ρ : Option Nat) (P : Program) (N : Nat) (D : List Deferred) (ops : Array Oper) (Q : Exit → Act → World → Prop) (S : World → Prop) (n : Nat) (tl : List Oper) (l : List Nat) (E : Env) (w : World) : Prop :=
  S w → ∀ a, Agree N D a E → ∀ listed, listed = listedBut ops n l → HeadInv .any ops n listed → wpM ρ P .any ops Q S n (tailL ρ P ops Q n tl) l.length listed a w

/-- The memory of a world. -/
def Same (w : World) : World → Prop := fun w' => w'.heap = w.heap
theorem Same.drew {w : World} : Same w w.drew := rfl

/-- What is asked of the post at a panic: it does not hang on the frame. -/
def Calm (Q : Exit → Act → World → Prop) : Prop := ∀ c a d v w, Q (.panic c) (Act.put a d v) w → Q (.panic c) a w
theorem Calm.sq {c : Code} (h : Calm Q) : Calm (sq ρ P c Q) := fun c a d v w hq => h c a d v w hq
theorem Calm.bk {id : Nat} (h : Calm Q) : Calm (bk id Q) := fun c a d v w hq => h c a d v w hq
theorem Calm.lp {γ : Type} {I : γ → Env → World → Prop} {m : γ → Nat} {g : γ} (h : Calm Q) : Calm (lp N D I m g Q) := fun c a d v w hq => h c a d v w hq
/-- What is asked where a function's body is left: it returns; nothing is left of its deferred calls but marks of ranges over functions. -/
def bodyP (P : Program) (fn : Func) (R : Ending → World → Prop) : Exit → Act → World → Prop
  | .normal, a, w | .ret, a, w => LeavesInM (FW none) 0 P fn a.tmps R a.defers .returning w
  | _, _, _ => False
theorem Calm.body {fn : Func} {R : Ending → World → Prop} : Calm (bodyP P fn R) := fun _ _ _ _ _ hq => hq.elim

def stepQ (ops : Array Oper) (n i : Nat) (l : List Nat) : Bool :=
  decide (i < n) && (Region.ready .any ops (listedBut ops n (i :: l))).contains i && Region.free .any ops (listedBut ops n (i :: l)) i && decide ((listedBut ops n (i :: l)).setIfInBounds i true = listedBut ops n l)
def stepE (ops : Array Oper) (n i : Nat) (l : List Nat) : Bool :=
  decide (i < n) && decide (Region.ready .any ops (listedBut ops n (i :: l)) = [i]) && decide ((listedBut ops n (i :: l)).setIfInBounds i true = listedBut ops n l)

def headB (N : Nat) (ops : Array Oper) (n : Nat) (tl : List Oper) (l : List Nat) : Bool :=
  (Region.noSelect ops && noDeferB ops) && ops.all (dstOK N) && decide (listedBut ops n l = Array.replicate ops.size false) && decide (l.length = n) && decide (n + tl.length = ops.size) &&
  (decide (n = ops.size) || (Region.sinkB .any ops n && Region.chainB .any ops n && decide (n < ops.size)))

def Head (N : Nat) (ops : Array Oper) (n : Nat) (tl : List Oper) : Prop :=
  (Region.noSelect ops = true ∧ NoDefer ops) ∧ ops.all (dstOK N) = true ∧ TailOK .any ops n ∧ ops.toList.drop n = tl

theorem RC.drawn {id : Nat} {lo : List Oper} {E : Env} {w : World} (n : Nat) (l : List Nat) (S : World → Prop) (hm : P.follows .mixedOrders = true) (hb : headB N lo.toArray n (lo.drop n) l = true)
    (hS : S w.drew) (h : Head N lo.toArray n (lo.drop n) → RH ρ P N D lo.toArray Q S n (lo.drop n) l E w.drew) : RC ρ P N D Q (.region id lo.toArray true) E w := fun a ha => by
  simp only [headB, Bool.and_eq_true, decide_eq_true_eq] at hb
  obtain ⟨⟨⟨⟨⟨⟨h1, h1'⟩, h2⟩, h3⟩, h4⟩, h5⟩, h6⟩ := hb
  have htl : TailOK .any lo.toArray n := by
    simp only [Bool.or_eq_true, Bool.and_eq_true, decide_eq_true_eq] at h6
    exact h6.imp (fun h => h) fun ⟨⟨a, b⟩, c⟩ => ⟨a, b, c⟩
  have hle : n ≤ lo.toArray.size := by omega
  have inv0 : HeadInv .any lo.toArray n (listedBut lo.toArray n l) := by
    rw [h3]
    exact ⟨by simp, fun j oj _ hl => (by rw [getD_replicate_false] at hl; cases hl), fun t _ ht => getD_in (by simpa using ht) (getD_replicate_false _ _)⟩
  have H := h ⟨⟨h1, noDefer_of h1'⟩, h2, htl, by simp⟩ hS a ha _ rfl inv0
  refine wpIn_region_any hm ?_
  have := wpAny_of_M (Q := Q) (g := (lo.drop n).length) (fun listed a w hL => wpAnyIn_of_seq (md := .any) (lo.drop n) n listed a w (fun j => by simp [List.getElem?_drop]) hL.1 hL.2) _ _ _ _ H
  rw [h4, h5] at this
  rw [← h3]
  exact this

theorem RH.q {d : Nat} {op : Op} {ty : TypeId} {pos : String} {af : Array Edge} {g : Option (Nat × Bool)} {lo : List Oper} {S : World → Prop} {n i : Nat} {tl : List Oper} {l : List Nat} {E : Env} {w : World} {v : Value} (hh : Head N lo.toArray n tl) (hc : Calm Q) (ho : lo[i]? = some ⟨some d, op, ty, pos, af, g⟩) (hb : stepQ lo.toArray n i l = true)
    (hq : Qt P S E ⟨some d, op, ty, pos, af, g⟩ v) (h : RH ρ P N D lo.toArray Q S n tl l ((d, v) :: E) w) (hr : Runs lo.toArray E ⟨some d, op, ty, pos, af, g⟩ := by exact Runs.plain rfl) : RH ρ P N D lo.toArray Q S n tl (i :: l) E w := fun hS a ha listed hl inv => by
  subst hl
  have ho : lo.toArray[i]? = some ⟨some d, op, ty, pos, af, g⟩ := by simpa using ho
  simp only [stepQ, Bool.and_eq_true, decide_eq_true_eq, List.contains_iff_mem] at hb
  obtain ⟨⟨⟨hin, hrd⟩, hf⟩, hset⟩ := hb
  have hdo : dstOK N ⟨some d, op, ty, pos, af, g⟩ = true := Array.all_eq_true_iff_forall_mem.1 hh.2.1 _ (Array.mem_of_getElem? ho)
  have hinv := inv.set hrd hin
  rw [hset] at hinv
  have H := h hS _ (ha.put hdo v) _ rfl hinv
  rw [← hset] at H
  refine wpM_first ho hh.1.2 (Region.noSelect_spec hh.1.1) (fun c a w => hc c a _ _ w) hh.2.2.1 hin ?_ _ _ _ _ inv (Region.free_spec ho hf) hrd (.inl ⟨hr a ha.knows, fun w hw => hq a ha.knows w hw⟩) hS H
  intro listed a w hL j hj
  exact seqB_ready hL.1 j hj

theorem RH.e {d : Nat} {op : Op} {ty : TypeId} {pos : String} {af : Array Edge} {g : Option (Nat × Bool)} {lo : List Oper} {S : World → Prop} {n i : Nat} {tl : List Oper} {l : List Nat} {E : Env} {w : World} {R : Value → World → Prop} (hh : Head N lo.toArray n tl) (ho : lo[i]? = some ⟨some d, op, ty, pos, af, g⟩) (hb : stepE lo.toArray n i l = true)
    (he : Ef P N D E w ⟨some d, op, ty, pos, af, g⟩ R) (h : ∀ v w', R v w' → S w' ∧ RH ρ P N D lo.toArray Q S n tl l ((d, v) :: E) w') (hr : Runs lo.toArray E ⟨some d, op, ty, pos, af, g⟩ := by exact Runs.plain rfl) : RH ρ P N D lo.toArray Q S n tl (i :: l) E w := fun _ a ha listed hl inv => by
  subst hl
  have ho : lo.toArray[i]? = some ⟨some d, op, ty, pos, af, g⟩ := by simpa using ho
  simp only [stepE, Bool.and_eq_true, decide_eq_true_eq] at hb
  obtain ⟨⟨hin, hrd⟩, hset⟩ := hb
  have hdo : dstOK N ⟨some d, op, ty, pos, af, g⟩ = true := Array.all_eq_true_iff_forall_mem.1 hh.2.1 _ (Array.mem_of_getElem? ho)
  have hinv := inv.set (by rw [hrd]; simp) hin
  rw [hset] at hinv
  refine ⟨by rw [hrd]; simp, fun j hj => ?_⟩
  rw [hrd] at hj
  have hji : j = i := by simpa using hj
  subst hji
  refine ⟨hin, ?_⟩
  unfold wpOpIn
  simp only [ho]
  rw [if_pos (hr a ha.knows)]
  refine he ρ a ha _ _ fun v w' hR => ?_
  obtain ⟨hS', h'⟩ := h v w' hR
  refine ⟨hS', ?_⟩
  rw [hset]
  exact h' hS' _ (ha.put hdo v) _ rfl hinv

theorem RH.e0 {op : Op} {ty : TypeId} {pos : String} {af : Array Edge} {g : Option (Nat × Bool)} {lo : List Oper} {S : World → Prop} {n i : Nat} {tl : List Oper} {l : List Nat} {E : Env} {w : World} {R : Value → World → Prop} (hh : Head N lo.toArray n tl) (ho : lo[i]? = some ⟨none, op, ty, pos, af, g⟩) (hb : stepE lo.toArray n i l = true)
    (he : Ef P N D E w ⟨none, op, ty, pos, af, g⟩ R) (h : ∀ v w', R v w' → S w' ∧ RH ρ P N D lo.toArray Q S n tl l E w') (hr : Runs lo.toArray E ⟨none, op, ty, pos, af, g⟩ := by exact Runs.plain rfl) : RH ρ P N D lo.toArray Q S n tl (i :: l) E w := fun _ a ha listed hl inv => by
  subst hl
  have ho : lo.toArray[i]? = some ⟨none, op, ty, pos, af, g⟩ := by simpa using ho
  simp only [stepE, Bool.and_eq_true, decide_eq_true_eq] at hb
  obtain ⟨⟨hin, hrd⟩, hset⟩ := hb
  have hdo : dstOK N ⟨none, op, ty, pos, af, g⟩ = true := rfl
  have hinv := inv.set (by rw [hrd]; simp) hin
  rw [hset] at hinv
  refine ⟨by rw [hrd]; simp, fun j hj => ?_⟩
  rw [hrd] at hj
  have hji : j = i := by simpa using hj
  subst hji
  refine ⟨hin, ?_⟩
  unfold wpOpIn
  simp only [ho]
  rw [if_pos (hr a ha.knows)]
  refine he ρ a ha _ _ fun v w' hR => ?_
  obtain ⟨hS', h'⟩ := h v w' hR
  refine ⟨hS', ?_⟩
  rw [hset]
  exact h' hS' _ (ha.put hdo v) _ rfl hinv

theorem RH.done {S : World → Prop} {n : Nat} {tl : List Oper} {E : Env} {w : World} (hh : Head N ops n tl) (hb : Region.seqB .any ops tl.length n (listedBut ops n []) = true)
    (h : RL ρ P N D ops Q tl E w) : RH ρ P N D ops Q S n tl [] E w := fun _ a ha listed hl _ => by
  subst hl
  refine ⟨hb, h ?_ a ha⟩
  rw [← hh.2.2.2, List.all_eq_true]
  intro x hx
  exact Array.all_eq_true_iff_forall_mem.1 hh.2.1 x (Array.mem_toList_iff.1 (List.mem_of_mem_drop hx))

/-- A guarded quiet operation in the head of a drawn region. -/
def RHG (ρ : Option Nat) (P : Program) (N : Nat) (D : List Deferred) (ops : Array Oper) (Q : Exit → Act → World → Prop) (S : World → Prop) (n : Nat) (tl : List Oper) (l : List Nat) (b0 want : Bool) (G E : Env) (w : World) : Prop :=
  S w → ∀ a, Agree N D a E → (b0 = want → Knows a G) → ∀ listed, listed = listedBut ops n l → HeadInv .any ops n listed → wpM ρ P .any ops Q S n (tailL ρ P ops Q n tl) l.length listed a w
theorem RHG.start {S : World → Prop} {n : Nat} {tl : List Oper} {l : List Nat} (t : Nat) (want : Bool) {b0 : Bool} {E : Env} {w : World} (_hb : look E t = some (.bool b0)) (h : RHG ρ P N D ops Q S n tl l b0 want E E w) : RH ρ P N D ops Q S n tl l E w := fun hS a ha => h hS a ha fun _ => ha.knows
theorem RHG.q {d : Nat} {op : Op} {ty : TypeId} {pos : String} {af : Array Edge} {lo : List Oper} {S : World → Prop} {n i : Nat} {tl : List Oper} {l : List Nat} {G E : Env} {w : World} {v : Value} {j t : Nat} {want b0 : Bool} (hh : Head N lo.toArray n tl) (hc : Calm Q) (ho : lo[i]? = some ⟨some d, op, ty, pos, af, some (j, want)⟩) (hsb : stepQ lo.toArray n i l = true)
    (hj : (lo.toArray[j]?).bind (·.dst) = some t) (hb : look E t = some (.bool b0)) (hf : fresh E ⟨some d, op, ty, pos, af, some (j, want)⟩ = true)
    (hq : b0 = want → Qt P S G ⟨some d, op, ty, pos, af, some (j, want)⟩ v) (h : RHG ρ P N D lo.toArray Q S n tl l b0 want ((d, v) :: G) E w) : RHG ρ P N D lo.toArray Q S n tl (i :: l) b0 want G E w := fun hS a ha hG listed hl inv => by
  subst hl
  have hg : (⟨some d, op, ty, pos, af, some (j, want)⟩ : Oper).guard = some (j, want) := rfl
  have ho : lo.toArray[i]? = some ⟨some d, op, ty, pos, af, some (j, want)⟩ := by simpa using ho
  simp only [stepQ, Bool.and_eq_true, decide_eq_true_eq, List.contains_iff_mem] at hsb
  obtain ⟨⟨⟨hin, hrd⟩, hfr⟩, hset⟩ := hsb
  have hdo : dstOK N ⟨some d, op, ty, pos, af, some (j, want)⟩ = true := Array.all_eq_true_iff_forall_mem.1 hh.2.1 _ (Array.mem_of_getElem? ho)
  have hinv := inv.set hrd hin
  rw [hset] at hinv
  by_cases hw : b0 = want
  · have hk := hG hw
    have H := h hS _ (ha.keep hf hdo v) (fun _ => (Agree.put (D := D) ⟨ha.size, ha.defers, hk⟩ hdo v).knows) _ rfl hinv
    rw [← hset] at H
    refine wpM_first ho hh.1.2 (Region.noSelect_spec hh.1.1) (fun c a w => hc c a _ _ w) hh.2.2.1 hin ?_ _ _ _ _ inv (Region.free_spec ho hfr) hrd (.inl ⟨Runs.guard hg hj hb hw a ha.knows, fun w' hw' => hq hw a hk w' hw'⟩) hS H
    intro listed a w hL j hj
    exact seqB_ready hL.1 j hj
  · have H := h hS _ (ha.keep hf hdo undef) (fun h => absurd h hw) _ rfl hinv
    rw [← hset] at H
    refine wpM_first ho hh.1.2 (Region.noSelect_spec hh.1.1) (fun c a w => hc c a _ _ w) hh.2.2.1 hin ?_ _ _ _ _ inv (Region.free_spec ho hfr) hrd (.inr ⟨Skips.guard hg hj hb (by cases b0 <;> cases want <;> simp at hw ⊢) a ha.knows, rfl⟩) hS H
    intro listed a w hL j hj
    exact seqB_ready hL.1 j hj
theorem RHG.pick {lo : List Oper} {S : World → Prop} {n i : Nat} {tl : List Oper} {l : List Nat} {b0 want r : Bool} {G E : Env} {w : World} {d : Nat} {cn x y : Operand} {ty : TypeId} {pos : String} {af : Array Edge} {bc : Bool} (hh : Head N lo.toArray n tl) (hc : Calm Q)
    (ho : lo[i]? = some ⟨some d, .pick cn x y, ty, pos, af, none⟩) (hsb : stepQ lo.toArray n i l = true) (hcn : ev E cn = some (.bool bc)) (hv : ∀ a : Act, Knows a E → (b0 = want → Knows a G) → (if bc then a.eval x else a.eval y) = .bool r)
    (h : RH ρ P N D lo.toArray Q S n tl l ((d, .bool r) :: E) w) : RHG ρ P N D lo.toArray Q S n tl (i :: l) b0 want G E w := fun hS a ha hG listed hl inv => by
  subst hl
  have ho : lo.toArray[i]? = some ⟨some d, .pick cn x y, ty, pos, af, none⟩ := by simpa using ho
  simp only [stepQ, Bool.and_eq_true, decide_eq_true_eq, List.contains_iff_mem] at hsb
  obtain ⟨⟨⟨hin, hrd⟩, hfr⟩, hset⟩ := hsb
  have hdo : dstOK N (⟨some d, .pick cn x y, ty, pos, af, none⟩ : Oper) = true := Array.all_eq_true_iff_forall_mem.1 hh.2.1 _ (Array.mem_of_getElem? ho)
  have hinv := inv.set hrd hin
  rw [hset] at hinv
  have H := h hS _ (ha.put hdo (.bool r)) _ rfl hinv
  rw [← hset] at H
  refine wpM_first ho hh.1.2 (Region.noSelect_spec hh.1.1) (fun c a w => hc c a _ _ w) hh.2.2.1 hin ?_ _ _ _ _ inv (Region.free_spec ho hfr) hrd (.inl ⟨by simp [Region.wanted], fun w _ => ?_⟩) hS H
  · intro listed a w hL j hj
    exact seqB_ready hL.1 j hj
  · rw [run_pick (ha.knows.ev hcn), hv a ha.knows hG]
theorem RHG.and {lo : List Oper} {S : World → Prop} {n i : Nat} {tl : List Oper} {l : List Nat} {b c : Bool} {G E : Env} {w : World} {d : Nat} {cn x : Operand} {ty : TypeId} {pos : String} {af : Array Edge} (hh : Head N lo.toArray n tl) (hcm : Calm Q)
    (ho : lo[i]? = some ⟨some d, .pick cn x (.const (.bool false)), ty, pos, af, none⟩) (hsb : stepQ lo.toArray n i l = true) (hc : ev E cn = some (.bool b)) (hx : ev G x = some (.bool c))
    (h : RH ρ P N D lo.toArray Q S n tl l ((d, .bool (b && c)) :: E) w) : RHG ρ P N D lo.toArray Q S n tl (i :: l) b true G E w :=
  RHG.pick hh hcm ho hsb hc (fun a ha hG => by
    cases b with
    | true => simp [(hG rfl).ev hx]
    | false => simp [Act.eval]) h
theorem RHG.or {lo : List Oper} {S : World → Prop} {n i : Nat} {tl : List Oper} {l : List Nat} {b c : Bool} {G E : Env} {w : World} {d : Nat} {cn y : Operand} {ty : TypeId} {pos : String} {af : Array Edge} (hh : Head N lo.toArray n tl) (hcm : Calm Q)
    (ho : lo[i]? = some ⟨some d, .pick cn (.const (.bool true)) y, ty, pos, af, none⟩) (hsb : stepQ lo.toArray n i l = true) (hc : ev E cn = some (.bool b)) (hy : ev G y = some (.bool c))
    (h : RH ρ P N D lo.toArray Q S n tl l ((d, .bool (b || c)) :: E) w) : RHG ρ P N D lo.toArray Q S n tl (i :: l) b false G E w :=
  RHG.pick hh hcm ho hsb hc (fun a ha hG => by
    cases b with
    | true => simp [Act.eval]
    | false => simp [(hG rfl).ev hy]) h
end
end Go.Gx

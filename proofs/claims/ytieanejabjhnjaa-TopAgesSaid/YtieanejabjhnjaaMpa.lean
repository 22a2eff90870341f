/- Part 1 of the proof engine and of what the functions come to. No condition. -/
import Derived.WalkKit
import Derived.OrdersHeld
import Derived.OrdersIn
import Derived.StillTail
import Derived.Sort.LoopGhostIn
import Derived.TacticsInMore
import Derived.RangeFuncNested
import Derived.RangeFuncCalls
import Derived.ChangeKeysEq
import Derived.Lib.BitFns
import Derived.MapKept
import Derived.Scope
/- The core of this session's own stepping rules: an environment of known temporaries, quiet operations, operations with an effect, plain and drawn regions, control flow. No condition; nothing of any program stands here. -/
namespace Go.Gx
open Go

abbrev Env := List (Nat × Value)

def look : Env → Nat → Option Value
  | [], _ => none
  | (t, v) :: E, s => match Nat.beq t s with
    | true => some v
    | false => look E s

def ev (E : Env) : Operand → Option Value
  | .tmp t => look E t
  | .const v => some v
  | .global g => some (.pointer (some ⟨g, 0, none⟩))
  | .func f => some (.func (.func f) #[] #[])

/-- What an act knows. -/
def Knows (a : Act) (E : Env) : Prop := ∀ t v, look E t = some v → a.tmps.getD t undef = v

structure Agree (N : Nat) (D : List Deferred) (a : Act) (E : Env) : Prop where
  size : a.tmps.size = N
  defers : a.defers = D
  knows : Knows a E

theorem Knows.ev {a : Act} {E : Env} (h : Knows a E) {x : Operand} {v : Value} (hx : ev E x = some v) : a.eval x = v := by
  cases x with
  | tmp t => exact h t v hx
  | const u => simpa [Gx.ev, Act.eval] using hx
  | global g => simpa [Gx.ev, Act.eval] using hx
  | func f => simpa [Gx.ev, Act.eval] using hx

def putE (dst : Option Nat) (v : Value) (E : Env) : Env :=
  match dst with
  | some d => (d, v) :: E
  | none => E

def dstOK (N : Nat) (o : Oper) : Bool :=
  match o.dst with
  | some d => Nat.blt d N
  | none => true

theorem Agree.put {N : Nat} {D : List Deferred} {a : Act} {E : Env} {o : Oper} (h : Agree N D a E) (hd : dstOK N o = true) (v : Value) : Agree N D (a.put o.dst v) (putE o.dst v E) := by
  unfold dstOK at hd
  cases ho : o.dst with
  | none => exact h
  | some d =>
    rw [ho] at hd
    have hlt : d < N := by simpa [Nat.blt_eq] using hd
    refine ⟨by simp [Act.put, h.size], h.defers, ?_⟩
    intro t u hu
    simp only [putE, look] at hu
    cases hb : Nat.beq d t with
    | true =>
      have e : d = t := Nat.eq_of_beq_eq_true hb
      subst e
      simp only [hb] at hu
      injection hu with hu
      subst hu
      simp [Act.put, h.size, hlt]
    | false =>
      simp only [hb] at hu
      have hne : d ≠ t := by intro e; subst e; simp at hb
      have := h.knows t u hu
      simpa [Act.put, Array.getElem?_setIfInBounds_ne hne] using this

theorem Agree.sub {N : Nat} {D : List Deferred} {a : Act} {E E' : Env} (h : Agree N D a E) (hs : ∀ t v, look E' t = some v → look E t = some v) : Agree N D a E' :=
  ⟨h.size, h.defers, fun t v hv => h.knows t v (hs t v hv)⟩

/-- E' is known where E is. -/
def Sub (E' E : Env) : Prop := ∀ t v, look E' t = some v → look E t = some v
theorem Sub.nil {E : Env} : Sub [] E := fun _ _ h => by cases h
theorem Sub.cons {E E' : Env} {t : Nat} {v : Value} (h : look E t = some v) (hs : Sub E' E) : Sub ((t, v) :: E') E := fun s u hu => by
  simp only [look] at hu
  cases hb : Nat.beq t s with
  | true =>
    have e : t = s := Nat.eq_of_beq_eq_true hb
    subst e
    simp only [hb] at hu
    injection hu with hu
    subst hu
    exact h
  | false => simp only [hb] at hu; exact hs s u hu

section
variable {ρ : Option Nat} {P : Program} {N : Nat} {D : List Deferred} {ops : Array Oper} {Q : Exit → Act → World → Prop}

/-- A quiet operation: in every world that meets S it yields v and leaves the world as it is. -/
def Qt (P : Program) (S : World → Prop) (E : Env) (o : Oper) (v : Value) : Prop :=
  ∀ a : Act, Knows a E → ∀ w, S w → (execOp a.eval o).run P w = .ok (.value v) w

/-- Every machine is let in; which round the frame is of, if any. -/
def FW (ρ : Option Nat) : Fence := { Fence.wide with round := ρ }

theorem semAt_value {ρ : Option Nat} {o : Oper} {a : Act} {w w' : World} {v : Value} (h : (execOp a.eval o).run P w = .ok (.value v) w') : (o.semAt ρ a.eval).run P w = .ok (.value v) w' := by
  by_cases hd : ∃ c, o.op = .defer c
  · obtain ⟨c, hc⟩ := hd
    exfalso
    simp only [execOp, hc, Sem.run_bind] at h
    generalize (resolve a.eval c o.type).run P w = r at h
    cases r with
    | ok d w1 => simp only [Result.andThen_ok, Sem.run_pure, Result.ok.injEq] at h; exact nomatch h.1
    | halt x w1 => simp [Result.andThen] at h
  · rw [Oper.semAt_eq ρ _ o (fun c hc => hd ⟨c, hc⟩)]; exact h
theorem semAt_skip {ρ : Option Nat} {o : Oper} {a : Act} {w w' : World} (h : (execOp a.eval o).run P w = .ok .skip w') : (o.semAt ρ a.eval).run P w = .ok .skip w' := by
  by_cases hd : ∃ c, o.op = .defer c
  · obtain ⟨c, hc⟩ := hd
    exfalso
    simp only [execOp, hc, Sem.run_bind] at h
    generalize (resolve a.eval c o.type).run P w = r at h
    cases r with
    | ok d w1 => simp only [Result.andThen_ok, Sem.run_pure, Result.ok.injEq] at h; exact nomatch h.1
    | halt x w1 => simp [Result.andThen] at h
  · rw [Oper.semAt_eq ρ _ o (fun c hc => hd ⟨c, hc⟩)]; exact h

theorem wpIn_value {ρ : Option Nat} {o : Oper} {a : Act} {w w' : World} {v : Value} {K : Act → World → Prop} (h : (execOp a.eval o).run P w = .ok (.value v) w') (hK : K (a.put o.dst v) w') : o.wpIn (FW ρ) 0 P a w K Q := by
  refine ⟨fun _ _ => trivial, ?_⟩
  rw [semAt_value h]; exact hK
theorem wpIn_skipV {ρ : Option Nat} {o : Oper} {a : Act} {w w' : World} {K : Act → World → Prop} (h : (execOp a.eval o).run P w = .ok .skip w') (hK : K (a.put o.dst undef) w') : o.wpIn (FW ρ) 0 P a w K Q := by
  refine ⟨fun _ _ => trivial, ?_⟩
  rw [semAt_skip h]; exact hK

/-- An operation with an effect: its value and the world behind it meet R. -/
def Ef (P : Program) (N : Nat) (D : List Deferred) (E : Env) (w : World) (o : Oper) (R : Value → World → Prop) : Prop :=
  ∀ (ρ : Option Nat) (a : Act), Agree N D a E → ∀ (K : Act → World → Prop) (Q : Exit → Act → World → Prop), (∀ v w', R v w' → K (a.put o.dst v) w') → o.wpIn (FW ρ) 0 P a w K Q

/-- The guard of an operation says yes, says no. -/
def Runs (ops : Array Oper) (E : Env) (o : Oper) : Prop := ∀ a : Act, Knows a E → Region.wanted o (yielded ops a.tmps) = true
def Skips (ops : Array Oper) (E : Env) (o : Oper) : Prop := ∀ a : Act, Knows a E → Region.wanted o (yielded ops a.tmps) = false

theorem Runs.plain {E : Env} {o : Oper} (h : o.guard = none) : Runs ops E o := fun a _ => by simp [Region.wanted, h]

theorem yielded_of {E : Env} {a : Act} (ha : Knows a E) {j t : Nat} {b : Bool} (hj : (ops[j]?).bind (·.dst) = some t) (hb : look E t = some (.bool b)) : yielded ops a.tmps j = some b := by
  have h1 := ha t _ hb
  unfold yielded
  cases ho : ops[j]? with
  | none => rw [ho] at hj; cases hj
  | some o =>
    rw [ho] at hj
    simp only [Option.bind_some] at hj ⊢
    rw [hj]
    simp only [Option.bind_some]
    simp only [Array.getD_eq_getD_getElem?] at h1
    cases hq : a.tmps[t]? with
    | none => rw [hq] at h1; simp [undef] at h1
    | some u => rw [hq] at h1; simp at h1; subst h1; rfl

theorem Runs.guard {E : Env} {o : Oper} {j t : Nat} {want b : Bool} (h : o.guard = some (j, want)) (hj : (ops[j]?).bind (·.dst) = some t) (hb : look E t = some (.bool b)) (e : b = want) : Runs ops E o := fun a ha => by
  subst e
  simp [Region.wanted, h, yielded_of ha hj hb]

theorem Skips.guard {E : Env} {o : Oper} {j t : Nat} {want b : Bool} (h : o.guard = some (j, want)) (hj : (ops[j]?).bind (·.dst) = some t) (hb : look E t = some (.bool b)) (e : b = !want) : Skips ops E o := fun a ha => by
  subst e
  cases want <;> simp [Region.wanted, h, yielded_of ha hj hb]

/-! ### Code under an environment -/

/-- From code c on. -/
def RC (ρ : Option Nat) (P : Program) (N : Nat) (D : List Deferred) (Q : Exit → Act → World → Prop) (c : Code) (E : Env) (w : World) : Prop :=
  ∀ a, Agree N D a E → c.wpIn (FW ρ) 0 P Q a w

/-- An exit reached. -/
def RE (N : Nat) (D : List Deferred) (Q : Exit → Act → World → Prop) (e : Exit) (E : Env) (w : World) : Prop :=
  ∀ a, Agree N D a E → Q e a w

/-- A plain region from a list of operations on. -/
def RL (ρ : Option Nat) (P : Program) (N : Nat) (D : List Deferred) (ops : Array Oper) (Q : Exit → Act → World → Prop) (l : List Oper) (E : Env) (w : World) : Prop :=
  l.all (dstOK N) = true → ∀ a, Agree N D a E → wpListIn (FW ρ) 0 P ops Q l a w

theorem RC.sub {c : Code} {E E' : Env} {w : World} (hs : Sub E' E) (h : RC ρ P N D Q c E' w) : RC ρ P N D Q c E w := fun a ha => h a (ha.sub hs)
theorem RE.sub {e : Exit} {E E' : Env} {w : World} (hs : Sub E' E) (h : RE N D Q e E' w) : RE N D Q e E w := fun a ha => h a (ha.sub hs)

def sq (ρ : Option Nat) (P : Program) (c : Code) (Q : Exit → Act → World → Prop) : Exit → Act → World → Prop := Exit.then (c.wpIn (FW ρ) 0 P Q) Q
def bk (id : Nat) (Q : Exit → Act → World → Prop) : Exit → Act → World → Prop := Exit.inBlock id Q

theorem RC.seq {c d : Code} {E : Env} {w : World} (h : RC ρ P N D (sq ρ P d Q) c E w) : RC ρ P N D Q (.seq c d) E w := fun a ha => wpIn_seq (h a ha)
theorem RC.block {id : Nat} {c : Code} {E : Env} {w : World} (h : RC ρ P N D (bk id Q) c E w) : RC ρ P N D Q (.block id c) E w := fun a ha => wpIn_block (h a ha)
theorem RC.skip {E : Env} {w : World} (h : RE N D Q .normal E w) : RC ρ P N D Q .skip E w := fun a ha => wpIn_skip (h a ha)
theorem RC.ret {E : Env} {w : World} (h : RE N D Q .ret E w) : RC ρ P N D Q .ret E w := fun a ha => wpIn_ret (h a ha)
theorem RC.exit {id : Nat} {E : Env} {w : World} (h : RE N D Q (.exit id) E w) : RC ρ P N D Q (.exit id) E w := fun a ha => wpIn_exit (h a ha)
theorem RC.condT {c : Operand} {x y : Code} {E : Env} {w : World} {t : Bool} (hc : ev E c = some (.bool t)) (ht : t = true) (h : RC ρ P N D Q x E w) : RC ρ P N D Q (.cond c x y) E w :=
  fun a ha => wpIn_cond_true (by rw [ha.knows.ev hc, ht]) (h a ha)
theorem RC.condF {c : Operand} {x y : Code} {E : Env} {w : World} {t : Bool} (hc : ev E c = some (.bool t)) (ht : t = false) (h : RC ρ P N D Q y E w) : RC ρ P N D Q (.cond c x y) E w :=
  fun a ha => wpIn_cond_false (by rw [ha.knows.ev hc, ht]) (h a ha)
theorem RC.cond {c : Operand} {x y : Code} {E : Env} {w : World} {t : Bool} (hc : ev E c = some (.bool t)) (h1 : t = true → RC ρ P N D Q x E w) (h2 : t = false → RC ρ P N D Q y E w) : RC ρ P N D Q (.cond c x y) E w := by
  cases t with
  | true => exact RC.condT hc rfl (h1 rfl)
  | false => exact RC.condF hc rfl (h2 rfl)
/-- A condition on a decided proposition. -/
theorem RC.condP {c : Operand} {x y : Code} {E : Env} {w : World} {p : Prop} [Decidable p] (hc : ev E c = some (.bool (decide p))) (h1 : p → RC ρ P N D Q x E w) (h2 : ¬ p → RC ρ P N D Q y E w) : RC ρ P N D Q (.cond c x y) E w :=
  RC.cond hc (fun h => h1 (of_decide_eq_true h)) (fun h => h2 (of_decide_eq_false h))

theorem RE.sqN {c : Code} {E : Env} {w : World} (h : RC ρ P N D Q c E w) : RE N D (sq ρ P c Q) .normal E w := fun a ha => h a ha
theorem RE.sqX {c : Code} {id : Nat} {E : Env} {w : World} (h : RE N D Q (.exit id) E w) : RE N D (sq ρ P c Q) (.exit id) E w := fun a ha => h a ha
theorem RE.sqR {c : Code} {E : Env} {w : World} (h : RE N D Q .ret E w) : RE N D (sq ρ P c Q) .ret E w := fun a ha => h a ha
theorem RE.bkN {id : Nat} {E : Env} {w : World} (h : RE N D Q .normal E w) : RE N D (bk id Q) .normal E w := fun a ha => h a ha
theorem RE.bkX {id : Nat} {E : Env} {w : World} (h : RE N D Q .normal E w) : RE N D (bk id Q) (.exit id) E w := fun a ha => by
  simp only [bk, Exit.inBlock, if_true]; exact h a ha
theorem RE.bkY {id id' : Nat} {E : Env} {w : World} (hne : (id' == id) = false) (h : RE N D Q (.exit id') E w) : RE N D (bk id Q) (.exit id') E w := fun a ha => by
  have : id' ≠ id := by simpa using hne
  simp only [bk, Exit.inBlock, if_neg this]; exact h a ha
theorem RE.bkR {id : Nat} {E : Env} {w : World} (h : RE N D Q .ret E w) : RE N D (bk id Q) .ret E w := fun a ha => h a ha

/-- A loop: an invariant over a ghost, and a measure. -/
def lp (N : Nat) (D : List Deferred) {γ : Type} (I : γ → Env → World → Prop) (m : γ → Nat) (g : γ) (Q : Exit → Act → World → Prop) : Exit → Act → World → Prop :=
  Exit.then (fun a w => ∃ n', n' < m g ∧ ∃ g' E', Agree N D a E' ∧ I g' E' w ∧ m g' = n') Q
theorem RE.lpN {γ : Type} {I : γ → Env → World → Prop} {m : γ → Nat} {g : γ} {E : Env} {w : World} (g' : γ) (E' : Env) (hs : Sub E' E) (hI : I g' E' w) (hm : m g' < m g) : RE N D (lp N D I m g Q) .normal E w :=
  fun _ ha => ⟨m g', hm, g', E', ha.sub hs, hI, rfl⟩
theorem RE.lpX {γ : Type} {I : γ → Env → World → Prop} {m : γ → Nat} {g : γ} {id : Nat} {E : Env} {w : World} (h : RE N D Q (.exit id) E w) : RE N D (lp N D I m g Q) (.exit id) E w := fun a ha => h a ha
theorem RE.lpR {γ : Type} {I : γ → Env → World → Prop} {m : γ → Nat} {g : γ} {E : Env} {w : World} (h : RE N D Q .ret E w) : RE N D (lp N D I m g Q) .ret E w := fun a ha => h a ha

theorem RC.loop {γ : Type} (I : γ → Env → World → Prop) (m : γ → Nat) (g0 : γ) (E0 : Env) {c : Code} {E : Env} {w : World} (hs : Sub E0 E) (h0 : I g0 E0 w)
    (round : ∀ g E w, I g E w → RC ρ P N D (lp N D I m g Q) c E w) : RC ρ P N D Q (.loop c) E w := fun a ha => by
  refine wpIn_loop_ghost (fun n a w => ∃ g E, Agree N D a E ∧ I g E w ∧ m g = n) (m g0) ⟨g0, E0, ha.sub hs, h0, rfl⟩ ?_
  rintro n a1 w1 ⟨g, E1, hag, hI, rfl⟩
  exact round g E1 w1 hI a1 hag

/-! ### Regions, plain -/
theorem RC.region {id : Nat} {l : List Oper} {E : Env} {w : World} (hd : l.all (dstOK N) = true) (h : RL ρ P N D l.toArray Q l E w) : RC ρ P N D Q (.region id l.toArray false) E w :=
  fun a ha => wpIn_region_lit (h hd a ha)
theorem RL.nil {E : Env} {w : World} (h : RE N D Q .normal E w) : RL ρ P N D ops Q [] E w := fun _ a ha => h a ha
theorem RL.q {d : Nat} {op : Op} {ty : TypeId} {pos : String} {af : Array Edge} {g : Option (Nat × Bool)} {l : List Oper} {E : Env} {w : World} {v : Value} (hq : Qt P (fun w' => w'.heap = w.heap) E ⟨some d, op, ty, pos, af, g⟩ v) (h : RL ρ P N D ops Q l ((d, v) :: E) w)
    (hr : Runs ops E ⟨some d, op, ty, pos, af, g⟩ := by exact Runs.plain rfl) : RL ρ P N D ops Q (⟨some d, op, ty, pos, af, g⟩ :: l) E w := fun hd a ha => by
  simp only [List.all_cons, Bool.and_eq_true] at hd
  unfold wpListIn
  rw [if_pos (hr a ha.knows)]
  exact wpIn_value (hq a ha.knows w rfl) (h hd.2 _ (ha.put hd.1 v))
theorem RL.e {d : Nat} {op : Op} {ty : TypeId} {pos : String} {af : Array Edge} {g : Option (Nat × Bool)} {l : List Oper} {E : Env} {w : World} {R : Value → World → Prop} (he : Ef P N D E w ⟨some d, op, ty, pos, af, g⟩ R) (h : ∀ v w', R v w' → RL ρ P N D ops Q l ((d, v) :: E) w')
    (hr : Runs ops E ⟨some d, op, ty, pos, af, g⟩ := by exact Runs.plain rfl) : RL ρ P N D ops Q (⟨some d, op, ty, pos, af, g⟩ :: l) E w := fun hd a ha => by
  simp only [List.all_cons, Bool.and_eq_true] at hd
  unfold wpListIn
  rw [if_pos (hr a ha.knows)]
  exact he ρ a ha _ _ fun v w' hR => h v w' hR hd.2 _ (ha.put hd.1 v)
theorem RL.e0 {op : Op} {ty : TypeId} {pos : String} {af : Array Edge} {g : Option (Nat × Bool)} {l : List Oper} {E : Env} {w : World} {R : Value → World → Prop} (he : Ef P N D E w ⟨none, op, ty, pos, af, g⟩ R) (h : ∀ v w', R v w' → RL ρ P N D ops Q l E w')
    (hr : Runs ops E ⟨none, op, ty, pos, af, g⟩ := by exact Runs.plain rfl) : RL ρ P N D ops Q (⟨none, op, ty, pos, af, g⟩ :: l) E w := fun hd a ha => by
  simp only [List.all_cons, Bool.and_eq_true] at hd
  unfold wpListIn
  rw [if_pos (hr a ha.knows)]
  exact he ρ a ha _ _ fun v w' hR => h v w' hR hd.2 _ (ha.put hd.1 v)
theorem RL.s {o : Oper} {l : List Oper} {E : Env} {w : World} (hs : Skips ops E o) (h : RL ρ P N D ops Q l (putE o.dst undef E) w) : RL ρ P N D ops Q (o :: l) E w := fun hd a ha => by
  simp only [List.all_cons, Bool.and_eq_true] at hd
  unfold wpListIn
  rw [if_neg (by simp [hs a ha.knows])]
  exact ⟨fun _ _ => trivial, h hd.2 _ (ha.put hd.1 undef)⟩


theorem RL.split {t : Nat} {b : Bool} {l : List Oper} {E : Env} {w : World} (h1 : b = true → RL ρ P N D ops Q l E w) (h2 : b = false → RL ρ P N D ops Q l E w) : RL ρ P N D ops Q l E w := by
  cases b with
  | true => exact h1 rfl
  | false => exact h2 rfl

/-! ### A guarded piece of quiet operations: what is known under the guard -/
def RLG (ρ : Option Nat) (P : Program) (N : Nat) (D : List Deferred) (ops : Array Oper) (Q : Exit → Act → World → Prop) (l : List Oper) (b0 want : Bool) (G E : Env) (w : World) : Prop :=
  l.all (dstOK N) = true → ∀ a, Agree N D a E → (b0 = want → Knows a G) → wpListIn (FW ρ) 0 P ops Q l a w
def fresh (E : Env) (o : Oper) : Bool :=
  match o.dst with
  | some d => (look E d).isNone
  | none => true
theorem Agree.keep {a : Act} {E : Env} {o : Oper} (h : Agree N D a E) (hf : fresh E o = true) (hd : dstOK N o = true) (v : Value) : Agree N D (a.put o.dst v) E := by
  have h1 := h.put hd v
  refine ⟨h1.size, h1.defers, fun t u hu => ?_⟩
  unfold fresh at hf
  cases ho : o.dst with
  | none => simpa [ho, Act.put] using h.knows t u hu
  | some d =>
    rw [ho] at hf
    have hne : d ≠ t := by
      intro e
      subst e
      change (look E d).isNone = true at hf
      rw [hu] at hf
      simp at hf
    have := h.knows t u hu
    simpa [Act.put, Array.getElem?_setIfInBounds_ne hne] using this
theorem RLG.start {l : List Oper} (t : Nat) (want : Bool) {b0 : Bool} {E : Env} {w : World} (_hb : look E t = some (.bool b0)) (h : RLG ρ P N D ops Q l b0 want E E w) : RL ρ P N D ops Q l E w := fun hd a ha => h hd a ha fun _ => ha.knows
theorem RLG.q {d : Nat} {op : Op} {ty : TypeId} {pos : String} {af : Array Edge} {l : List Oper} {G E : Env} {w : World} {v : Value} {j t : Nat} {want b0 : Bool} (hj : (ops[j]?).bind (·.dst) = some t) (hb : look E t = some (.bool b0)) (hf : fresh E ⟨some d, op, ty, pos, af, some (j, want)⟩ = true)
    (hq : b0 = want → Qt P (fun w' => w'.heap = w.heap) G ⟨some d, op, ty, pos, af, some (j, want)⟩ v) (h : RLG ρ P N D ops Q l b0 want ((d, v) :: G) E w) : RLG ρ P N D ops Q (⟨some d, op, ty, pos, af, some (j, want)⟩ :: l) b0 want G E w := fun hd a ha hG => by
  have hg : (⟨some d, op, ty, pos, af, some (j, want)⟩ : Oper).guard = some (j, want) := rfl
  simp only [List.all_cons, Bool.and_eq_true] at hd
  unfold wpListIn
  by_cases hw : b0 = want
  · rw [if_pos (Runs.guard hg hj hb hw a ha.knows)]
    have hk := hG hw
    exact wpIn_value (hq hw a hk w rfl) (h hd.2 _ (ha.keep hf hd.1 v) fun _ => (Agree.put (D := D) ⟨ha.size, ha.defers, hk⟩ hd.1 v).knows)
  · rw [if_neg (by rw [Skips.guard hg hj hb (by cases b0 <;> cases want <;> simp at hw ⊢) a ha.knows]; simp)]
    exact ⟨fun _ _ => trivial, h hd.2 _ (ha.keep hf hd.1 undef) fun h => absurd h hw⟩

theorem run_pick {a : Act} {w : World} {d : Option Nat} {c x y : Operand} {b : Bool} {ty : TypeId} {pos : String} {af : Array Edge} {g : Option (Nat × Bool)} (hc : a.eval c = .bool b) :
    (execOp a.eval ⟨d, .pick c x y, ty, pos, af, g⟩).run P w = .ok (.value (if b then a.eval x else a.eval y)) w := by
  simp [execOp, hc, asBool]
/-- 'x && y': the pick behind the guarded piece. -/
theorem RLG.and {l : List Oper} {b c : Bool} {G E : Env} {w : World} {d : Nat} {cn x : Operand} {ty : TypeId} {pos : String} {af : Array Edge} (hc : ev E cn = some (.bool b)) (hx : ev G x = some (.bool c))
    (h : RL ρ P N D ops Q l ((d, .bool (b && c)) :: E) w) : RLG ρ P N D ops Q (⟨some d, .pick cn x (.const (.bool false)), ty, pos, af, none⟩ :: l) b true G E w := fun hd a ha hG => by
  simp only [List.all_cons, Bool.and_eq_true] at hd
  unfold wpListIn
  rw [if_pos (by simp [Region.wanted])]
  refine wpIn_value (run_pick (ha.knows.ev hc)) ?_
  have hv : (if b = true then a.eval x else a.eval (.const (.bool false))) = .bool (b && c) := by
    cases b with
    | true => simp [(hG rfl).ev hx]
    | false => simp [Act.eval]
  rw [hv]
  exact h hd.2 _ (ha.put hd.1 _)
/-- 'x || y': the pick behind the guarded piece; the piece runs where x is false. -/
theorem RLG.or {l : List Oper} {b c : Bool} {G E : Env} {w : World} {d : Nat} {cn y : Operand} {ty : TypeId} {pos : String} {af : Array Edge} (hc : ev E cn = some (.bool b)) (hy : ev G y = some (.bool c))
    (h : RL ρ P N D ops Q l ((d, .bool (b || c)) :: E) w) : RLG ρ P N D ops Q (⟨some d, .pick cn (.const (.bool true)) y, ty, pos, af, none⟩ :: l) b false G E w := fun hd a ha hG => by
  simp only [List.all_cons, Bool.and_eq_true] at hd
  unfold wpListIn
  rw [if_pos (by simp [Region.wanted])]
  refine wpIn_value (run_pick (ha.knows.ev hc)) ?_
  have hv : (if b = true then a.eval (.const (.bool true)) else a.eval y) = .bool (b || c) := by
    cases b with
    | true => simp [Act.eval]
    | false => simp [(hG rfl).ev hy]
  rw [hv]
  exact h hd.2 _ (ha.put hd.1 _)

/-! ### Regions that draw: a head in whatever order, under a condition S on the world, and a tail in one order -/

/-- The head of a drawn region: whatever order is picked, S holds behind each operation that is carried out; then L. -/
def wpM (ρ : Option Nat) (P : Program) (md : Region.Mode) (ops : Array Oper) (Q : Exit → Act → World → Prop) (S : World → Prop) (n : Nat) (L : Array Bool → Act → World → Prop) : Nat → Array Bool → Act → World → Prop
  | 0, listed, a, w => L listed a w
  | f + 1, listed, a, w => Region.ready md ops listed ≠ [] ∧ ∀ i ∈ Region.ready md ops listed, i < n ∧ wpOpIn (FW ρ) 0 P ops Q i (fun a' w' => S w' ∧ wpM ρ P md ops Q S n L f (listed.setIfInBounds i true) a' w') a w

theorem wpAny_of_M {md : Region.Mode} {S : World → Prop} {n g : Nat} {L : Array Bool → Act → World → Prop} (hL : ∀ listed a w, L listed a w → wpAnyIn (FW ρ) 0 P md ops Q g listed a w) :
    ∀ (f : Nat) (listed : Array Bool) (a : Act) (w : World), wpM ρ P md ops Q S n L f listed a w → wpAnyIn (FW ρ) 0 P md ops Q (f + g) listed a w
  | 0, listed, a, w, h => by rw [Nat.zero_add]; exact hL _ _ _ h
  | f + 1, listed, a, w, h => by
    rw [show f + 1 + g = (f + g) + 1 by omega]
    exact ⟨fun h0 => absurd h0 h.1, fun i hi => wpOpIn_mono (fun a' w' h' => wpAny_of_M hL f _ a' w' h'.2) (h.2 i hi).2⟩

/-- No operation of the region is a defer statement. -/
def NoDefer (ops : Array Oper) : Prop := ∀ (j : Nat) (o : Oper), ops[j]? = some o → ∀ c, o.op ≠ .defer c
def noDeferB (ops : Array Oper) : Bool := ops.all fun o => match o.op with | .defer _ => false | _ => true
theorem noDefer_of {ops : Array Oper} (h : noDeferB ops = true) : NoDefer ops := fun j o ho c hc => by
  have := Array.all_eq_true_iff_forall_mem.1 h o (Array.mem_of_getElem? ho)
  rw [hc] at this
  cases this

theorem yieldsIf_wpOpIn {S : World → Prop} {i : Nat} {o : Oper} {v : Value} {a : Act} (hi : ops[i]? = some o) (hy : YieldsIf P ops S o v a) {K : Act → World → Prop} {w : World} (hS : S w) (h : K (a.put o.dst v) w) : wpOpIn (FW ρ) 0 P ops Q i K a w := by
  unfold wpOpIn
  simp only [hi]
  rcases hy with ⟨hw, hv⟩ | ⟨hw, rfl⟩
  · rw [if_pos hw]; exact wpIn_value (hv w hS) h
  · rw [if_neg (by simp [hw])]; exact ⟨fun _ _ => trivial, h⟩

theorem wpOpIn_putIf {S : World → Prop} {j : Nat} {oi oj : Oper} {v : Value} (hj : ops[j]? = some oj) (hap : oi.apart ops oj = true) (hnd : ∀ c, oj.op ≠ .defer c)
    (hsi : ∀ cs b, oi.op ≠ .select cs b) (hsj : ∀ cs b, oj.op ≠ .select cs b)
    (hQ : ∀ c a w, Q (.panic c) (a.put oi.dst v) w → Q (.panic c) a w) {K : Act → World → Prop} {a : Act} {w : World}
    (hy : YieldsIf P ops S oi v a) (h : wpOpIn (FW ρ) 0 P ops Q j K (a.put oi.dst v) w) :
    wpOpIn (FW ρ) 0 P ops Q j (fun a' w' => YieldsIf P ops S oi v a' ∧ K (a'.put oi.dst v) w') a w := by
  obtain ⟨h1, h2, h3⟩ := Oper.apart_spec hap
  have keep : ∀ (a : Act), YieldsIf P ops S oi v a → ∀ u, YieldsIf P ops S oi v (a.put oj.dst u) := fun a hy u =>
    hy.of_same (execOp_put oi hsi a oj.dst u h3) (wanted_put oi a oj.dst u h3)
  have keepD : ∀ d, YieldsIf P ops S oi v { a with defers := d :: a.defers } := fun d => hy.of_same rfl rfl
  unfold wpOpIn at *
  simp only [hj] at *
  rw [wanted_put oj a oi.dst v h1] at h
  by_cases hw : Region.wanted oj (yielded ops a.tmps) = true
  · rw [if_pos hw] at h ⊢
    refine ⟨fun _ _ => trivial, ?_⟩
    have h := h.2
    rw [Oper.semAt_eq _ _ oj hnd, execOp_put oj hsj a oi.dst v h1] at h
    rw [Oper.semAt_eq _ _ oj hnd]
    generalize (execOp a.eval oj).run P w = r at *
    cases r with
    | ok x w' =>
      cases x <;> simp only [Oper.uponIn] at h ⊢
      case value u => exact ⟨keep a hy u, by rw [← Act.put_comm a v u h2]; exact h⟩
      case skip => exact ⟨keep a hy _, by rw [← Act.put_comm a v undef h2]; exact h⟩
      case defer d =>
        refine ⟨keep _ (keepD d) _, ?_⟩
        rw [← Act.put_comm _ v undef h2, ← Act.put_defers]
        exact h
      case enter f args =>
        refine ⟨h.1, CallsIn.mono h.2 fun e w'' he => ?_⟩
        cases e with
        | returned u => exact ⟨keep a hy u, by rw [← Act.put_comm a v u h2]; exact he⟩
        | panicked c => exact hQ _ _ _ he
        | outgrown => exact he
      case row row args => exact ⟨h.1, RowsIn.mono h.2 fun u w'' he => ⟨keep a hy u, by rw [← Act.put_comm a v u h2]; exact he⟩⟩
      case round l f tmps assign body =>
        refine ⟨h.1, RoundIn.mono h.2 fun e w'' he => ?_⟩
        cases e with
        | returned u => exact ⟨keep a hy u, by rw [← Act.put_comm a v u h2]; exact he⟩
        | panicked c => exact hQ _ _ _ he
        | outgrown => exact he
    | halt x w' =>
      cases x <;> simp only [Oper.uponIn] at h ⊢
      case panic u => exact hQ _ _ _ h
  · rw [if_neg hw] at h ⊢
    exact ⟨fun _ _ => trivial, keep a hy _, by rw [← Act.put_comm a v undef h2]; exact h.2⟩

theorem wpAnyIn_of_seq {md : Region.Mode} : ∀ (l : List Oper) (k : Nat) (listed : Array Bool) (a : Act) (w : World), (∀ j, l[j]? = ops[k + j]?) →
    Region.seqB md ops l.length k listed = true → wpListIn (FW ρ) 0 P ops Q l a w → wpAnyIn (FW ρ) 0 P md ops Q l.length listed a w
  | [], _, _, _, _, _, hB, h => ⟨by simpa [Region.seqB] using hB, h⟩
  | o :: l, k, listed, a, w, hl, hB, h => by
    have h0 : ops[k]? = some o := by simpa using (hl 0).symm
    simp only [List.length_cons, Region.seqB, Bool.and_eq_true, decide_eq_true_eq] at hB
    refine ⟨fun h1 => (by rw [hB.1] at h1; cases h1), fun i hi => ?_⟩
    rw [hB.1] at hi
    have hik : i = k := by simpa using hi
    subst hik
    have hw : wpOpIn (FW ρ) 0 P ops Q i (wpListIn (FW ρ) 0 P ops Q l) a w := by unfold wpOpIn; simp only [h0]; exact h
    exact wpOpIn_mono (fun a' w' h' => wpAnyIn_of_seq l (i + 1) _ a' w' (fun j => by have := hl (j + 1); simpa [Nat.add_assoc, Nat.add_comm 1 j] using this) hB.2 h') hw

/-- How the tail hangs on the head. -/
def TailOK (md : Region.Mode) (ops : Array Oper) (n : Nat) : Prop :=
  n = ops.size ∨ (Region.sinkB md ops n = true ∧ Region.chainB md ops n = true ∧ n < ops.size)

theorem tail_not_ready {md : Region.Mode} {n i t : Nat} {listed : Array Bool} (ht : TailOK md ops n) (inv : HeadInv md ops n listed) (hi : i < n) (hun : listed.getD i true = false) (hr : t ∈ Region.ready md ops listed) : t < n := by
  rcases ht with h | ⟨hs, hc, hn⟩
  · obtain ⟨_, o, ho, _⟩ := mem_ready.1 hr
    have := (Array.getElem?_eq_some_iff.1 ho).1
    omega
  · rcases Nat.lt_or_ge t n with h | h
    · exact h
    · exact absurd hr (tail_waits hs hc hn inv _ i rfl hi hun t h)

theorem wpM_first {md : Region.Mode} {S : World → Prop} {n i : Nat} {oi : Oper} {v : Value} {L : Array Bool → Act → World → Prop} (hi : ops[i]? = some oi) (hnd : NoDefer ops)
    (hsel : ∀ (j : Nat) (o : Oper) cs b, ops[j]? = some o → o.op ≠ .select cs b)
    (hQ : ∀ c a w, Q (.panic c) (a.put oi.dst v) w → Q (.panic c) a w) (htl : TailOK md ops n) (hin : i < n)
    (hdone : ∀ listed a w, L listed a w → ∀ j ∈ Region.ready md ops listed, n ≤ j) :
    ∀ (f : Nat) (listed : Array Bool) (a : Act) (w : World), HeadInv md ops n listed →
      (∀ j oj, ops[j]? = some oj → j ≠ i → listed.getD j true = false → (∀ e ∈ oj.after, Region.binds md e = true → e.on ≠ i) → oi.apart ops oj = true) →
      i ∈ Region.ready md ops listed → YieldsIf P ops S oi v a → S w →
      wpM ρ P md ops Q S n L f (listed.setIfInBounds i true) (a.put oi.dst v) w → wpM ρ P md ops Q S n L (f + 1) listed a w := by
  intro f
  induction f with
  | zero =>
    intro listed a w inv _ hr hy hS H
    have hun := (mem_ready.1 hr).1
    refine ⟨fun h => (by rw [h] at hr; cases hr), fun j hj => ?_⟩
    have hjn := tail_not_ready htl inv hin hun hj
    refine ⟨hjn, ?_⟩
    by_cases hji : j = i
    · subst hji; exact yieldsIf_wpOpIn hi hy hS ⟨hS, H⟩
    · have := hdone _ _ _ H j (ready_mono hj hji)
      omega
  | succ f ih =>
    intro listed a w inv hfree hr hy hS H
    have hun := (mem_ready.1 hr).1
    refine ⟨fun h => (by rw [h] at hr; cases hr), fun j hj => ?_⟩
    have hjn := tail_not_ready htl inv hin hun hj
    refine ⟨hjn, ?_⟩
    by_cases hji : j = i
    · subst hji; exact yieldsIf_wpOpIn hi hy hS ⟨hS, H⟩
    · have h1 := (H.2 j (ready_mono hj hji)).2
      obtain ⟨hjun, oj, hoj, hall⟩ := mem_ready.1 hj
      have hnot : ∀ e ∈ oj.after, Region.binds md e = true → e.on ≠ i := fun e he hb heq => by
        have h1 := hall e he hb
        rw [heq, getD_both hun] at h1
        cases h1
      have h2 := wpOpIn_putIf hoj (hfree j oj hoj hji hjun hnot) (hnd j oj hoj) (fun cs b => hsel i oi cs b hi) (fun cs b => hsel j oj cs b hoj) hQ hy h1
      have hfree' : ∀ k ok, ops[k]? = some ok → k ≠ i → (listed.setIfInBounds j true).getD k true = false →
          (∀ e ∈ ok.after, Region.binds md e = true → e.on ≠ i) → oi.apart ops ok = true := fun k ok hk hki hun hno => by
        refine hfree k ok hk hki ?_ hno
        by_cases hjk : j = k
        · subst hjk; exact hjun
        · rw [getD_set_ne true hjk] at hun; exact hun
      refine wpOpIn_mono (fun a' w' h3 => ⟨h3.2.1, ih (listed.setIfInBounds j true) a' w' (inv.set hj hjn) hfree' (ready_mono hr (Ne.symm hji)) h3.1 h3.2.1 ?_⟩) h2
      rw [Array.setIfInBounds_comm _ _ hji]
      exact h3.2.2

/-- The state of a drawn region in which the head's operations of the list l are still to come, in the order in which the proof takes them. -/
def listedBut (ops : Array Oper) (n : Nat) (l : List Nat) : Array Bool := (List.range ops.size).toArray.map fun i => decide (i < n) && !l.contains i

/-- Post of a head: the tail, in one order. -/
def tailL (ρ : Option Nat) (P : Program) (ops : Array Oper) (Q : Exit → Act → World → Prop) (n : Nat) (tl : List Oper) (listed : Array Bool) (a : Act) (w : World) : Prop :=
  Region.seqB .any ops tl.length n listed = true ∧ wpListIn (FW ρ) 0 P ops Q tl a w

def RH (ρ : Option Nat) (P : Program) (N : Nat) (D : List Deferred) (ops : Array Oper) (Q : Exit → Act → World → Prop) (S : World → Prop) (n : Nat) (tl : List Oper) (l : List Nat) (E : Env) (w : World) : Prop :=
  S w → ∀ a, Agree N D a E → ∀ listed, listed = listedBut ops n l → HeadInv .any ops n listed → wpM ρ P .any ops Q S n (tailL ρ P ops Q n tl) l.length listed a w

/-- The memory of a world. -/
def Same (w : World) : World → Prop := fun w' => w'.heap = w.heap
theorem Same.drew {w : World} : Same w w.drew := rfl

/-- What is asked of the post at a panic: it does not hang on the frame. -/
def Calm (Q : Exit → Act → World → Prop) : Prop := ∀ c a d v w, Q (.panic c) (Act.put a d v) w → Q (.panic c) a w
theorem Calm.sq {c : Code} (h : Calm Q) : Calm (sq ρ P c Q) := fun c a d v w hq => h c a d v w hq
theorem Calm.bk {id : Nat} (h : Calm Q) : Calm (bk id Q) := fun c a d v w hq => h c a d v w hq
theorem Calm.lp {γ : Type} {I : γ → Env → World → Prop} {m : γ → Nat} {g : γ} (h : Calm Q) : Calm (lp N D I m g Q) := fun c a d v w hq => h c a d v w hq
/-- What is asked where a function's body is left: it returns; nothing is left of its deferred calls but marks of ranges over functions. -/
def bodyP (P : Program) (fn : Func) (R : Ending → World → Prop) : Exit → Act → World → Prop
  | .normal, a, w | .ret, a, w => LeavesInM (FW none) 0 P fn a.tmps R a.defers .returning w
  | _, _, _ => False
theorem Calm.body {fn : Func} {R : Ending → World → Prop} : Calm (bodyP P fn R) := fun _ _ _ _ _ hq => hq.elim

def stepQ (ops : Array Oper) (n i : Nat) (l : List Nat) : Bool :=
  decide (i < n) && (Region.ready .any ops (listedBut ops n (i :: l))).contains i && Region.free .any ops (listedBut ops n (i :: l)) i && decide ((listedBut ops n (i :: l)).setIfInBounds i true = listedBut ops n l)
def stepE (ops : Array Oper) (n i : Nat) (l : List Nat) : Bool :=
  decide (i < n) && decide (Region.ready .any ops (listedBut ops n (i :: l)) = [i]) && decide ((listedBut ops n (i :: l)).setIfInBounds i true = listedBut ops n l)

def headB (N : Nat) (ops : Array Oper) (n : Nat) (tl : List Oper) (l : List Nat) : Bool :=
  (Region.noSelect ops && noDeferB ops) && ops.all (dstOK N) && decide (listedBut ops n l = Array.replicate ops.size false) && decide (l.length = n) && decide (n + tl.length = ops.size) &&
  (decide (n = ops.size) || (Region.sinkB .any ops n && Region.chainB .any ops n && decide (n < ops.size)))

def Head (N : Nat) (ops : Array Oper) (n : Nat) (tl : List Oper) : Prop :=
  (Region.noSelect ops = true ∧ NoDefer ops) ∧ ops.all (dstOK N) = true ∧ TailOK .any ops n ∧ ops.toList.drop n = tl

theorem RC.drawn {id : Nat} {lo : List Oper} {E : Env} {w : World} (n : Nat) (l : List Nat) (S : World → Prop) (hm : P.follows .mixedOrders = true) (hb : headB N lo.toArray n (lo.drop n) l = true)
    (hS : S w.drew) (h : Head N lo.toArray n (lo.drop n) → RH ρ P N D lo.toArray Q S n (lo.drop n) l E w.drew) : RC ρ P N D Q (.region id lo.toArray true) E w := fun a ha => by
  simp only [headB, Bool.and_eq_true, decide_eq_true_eq] at hb
  obtain ⟨⟨⟨⟨⟨⟨h1, h1'⟩, h2⟩, h3⟩, h4⟩, h5⟩, h6⟩ := hb
  have htl : TailOK .any lo.toArray n := by
    simp only [Bool.or_eq_true, Bool.and_eq_true, decide_eq_true_eq] at h6
    exact h6.imp (fun h => h) fun ⟨⟨a, b⟩, c⟩ => ⟨a, b, c⟩
  have hle : n ≤ lo.toArray.size := by omega
  have inv0 : HeadInv .any lo.toArray n (listedBut lo.toArray n l) := by
    rw [h3]
    exact ⟨by simp, fun j oj _ hl => (by rw [getD_replicate_false] at hl; cases hl), fun t _ ht => getD_in (by simpa using ht) (getD_replicate_false _ _)⟩
  have H := h ⟨⟨h1, noDefer_of h1'⟩, h2, htl, by simp⟩ hS a ha _ rfl inv0
  refine wpIn_region_any hm ?_
  have := wpAny_of_M (Q := Q) (g := (lo.drop n).length) (fun listed a w hL => wpAnyIn_of_seq (md := .any) (lo.drop n) n listed a w (fun j => by simp [List.getElem?_drop]) hL.1 hL.2) _ _ _ _ H
  rw [h4, h5] at this
  rw [← h3]
  exact this

theorem RH.q {d : Nat} {op : Op} {ty : TypeId} {pos : String} {af : Array Edge} {g : Option (Nat × Bool)} {lo : List Oper} {S : World → Prop} {n i : Nat} {tl : List Oper} {l : List Nat} {E : Env} {w : World} {v : Value} (hh : Head N lo.toArray n tl) (hc : Calm Q) (ho : lo[i]? = some ⟨some d, op, ty, pos, af, g⟩) (hb : stepQ lo.toArray n i l = true)
    (hq : Qt P S E ⟨some d, op, ty, pos, af, g⟩ v) (h : RH ρ P N D lo.toArray Q S n tl l ((d, v) :: E) w) (hr : Runs lo.toArray E ⟨some d, op, ty, pos, af, g⟩ := by exact Runs.plain rfl) : RH ρ P N D lo.toArray Q S n tl (i :: l) E w := fun hS a ha listed hl inv => by
  subst hl
  have ho : lo.toArray[i]? = some ⟨some d, op, ty, pos, af, g⟩ := by simpa using ho
  simp only [stepQ, Bool.and_eq_true, decide_eq_true_eq, List.contains_iff_mem] at hb
  obtain ⟨⟨⟨hin, hrd⟩, hf⟩, hset⟩ := hb
  have hdo : dstOK N ⟨some d, op, ty, pos, af, g⟩ = true := Array.all_eq_true_iff_forall_mem.1 hh.2.1 _ (Array.mem_of_getElem? ho)
  have hinv := inv.set hrd hin
  rw [hset] at hinv
  have H := h hS _ (ha.put hdo v) _ rfl hinv
  rw [← hset] at H
  refine wpM_first ho hh.1.2 (Region.noSelect_spec hh.1.1) (fun c a w => hc c a _ _ w) hh.2.2.1 hin ?_ _ _ _ _ inv (Region.free_spec ho hf) hrd (.inl ⟨hr a ha.knows, fun w hw => hq a ha.knows w hw⟩) hS H
  intro listed a w hL j hj
  exact seqB_ready hL.1 j hj

theorem RH.e {d : Nat} {op : Op} {ty : TypeId} {pos : String} {af : Array Edge} {g : Option (Nat × Bool)} {lo : List Oper} {S : World → Prop} {n i : Nat} {tl : List Oper} {l : List Nat} {E : Env} {w : World} {R : Value → World → Prop} (hh : Head N lo.toArray n tl) (ho : lo[i]? = some ⟨some d, op, ty, pos, af, g⟩) (hb : stepE lo.toArray n i l = true)
    (he : Ef P N D E w ⟨some d, op, ty, pos, af, g⟩ R) (h : ∀ v w', R v w' → S w' ∧ RH ρ P N D lo.toArray Q S n tl l ((d, v) :: E) w') (hr : Runs lo.toArray E ⟨some d, op, ty, pos, af, g⟩ := by exact Runs.plain rfl) : RH ρ P N D lo.toArray Q S n tl (i :: l) E w := fun _ a ha listed hl inv => by
  subst hl
  have ho : lo.toArray[i]? = some ⟨some d, op, ty, pos, af, g⟩ := by simpa using ho
  simp only [stepE, Bool.and_eq_true, decide_eq_true_eq] at hb
  obtain ⟨⟨hin, hrd⟩, hset⟩ := hb
  have hdo : dstOK N ⟨some d, op, ty, pos, af, g⟩ = true := Array.all_eq_true_iff_forall_mem.1 hh.2.1 _ (Array.mem_of_getElem? ho)
  have hinv := inv.set (by rw [hrd]; simp) hin
  rw [hset] at hinv
  refine ⟨by rw [hrd]; simp, fun j hj => ?_⟩
  rw [hrd] at hj
  have hji : j = i := by simpa using hj
  subst hji
  refine ⟨hin, ?_⟩
  unfold wpOpIn
  simp only [ho]
  rw [if_pos (hr a ha.knows)]
  refine he ρ a ha _ _ fun v w' hR => ?_
  obtain ⟨hS', h'⟩ := h v w' hR
  refine ⟨hS', ?_⟩
  rw [hset]
  exact h' hS' _ (ha.put hdo v) _ rfl hinv

theorem RH.e0 {op : Op} {ty : TypeId} {pos : String} {af : Array Edge} {g : Option (Nat × Bool)} {lo : List Oper} {S : World → Prop} {n i : Nat} {tl : List Oper} {l : List Nat} {E : Env} {w : World} {R : Value → World → Prop} (hh : Head N lo.toArray n tl) (ho : lo[i]? = some ⟨none, op, ty, pos, af, g⟩) (hb : stepE lo.toArray n i l = true)
    (he : Ef P N D E w ⟨none, op, ty, pos, af, g⟩ R) (h : ∀ v w', R v w' → S w' ∧ RH ρ P N D lo.toArray Q S n tl l E w') (hr : Runs lo.toArray E ⟨none, op, ty, pos, af, g⟩ := by exact Runs.plain rfl) : RH ρ P N D lo.toArray Q S n tl (i :: l) E w := fun _ a ha listed hl inv => by
  subst hl
  have ho : lo.toArray[i]? = some ⟨none, op, ty, pos, af, g⟩ := by simpa using ho
  simp only [stepE, Bool.and_eq_true, decide_eq_true_eq] at hb
  obtain ⟨⟨hin, hrd⟩, hset⟩ := hb
  have hdo : dstOK N ⟨none, op, ty, pos, af, g⟩ = true := rfl
  have hinv := inv.set (by rw [hrd]; simp) hin
  rw [hset] at hinv
  refine ⟨by rw [hrd]; simp, fun j hj => ?_⟩
  rw [hrd] at hj
  have hji : j = i := by simpa using hj
  subst hji
  refine ⟨hin, ?_⟩
  unfold wpOpIn
  simp only [ho]
  rw [if_pos (hr a ha.knows)]
  refine he ρ a ha _ _ fun v w' hR => ?_
  obtain ⟨hS', h'⟩ := h v w' hR
  refine ⟨hS', ?_⟩
  rw [hset]
  exact h' hS' _ (ha.put hdo v) _ rfl hinv

theorem RH.done {S : World → Prop} {n : Nat} {tl : List Oper} {E : Env} {w : World} (hh : Head N ops n tl) (hb : Region.seqB .any ops tl.length n (listedBut ops n []) = true)
    (h : RL ρ P N D ops Q tl E w) : RH ρ P N D ops Q S n tl [] E w := fun _ a ha listed hl _ => by
  subst hl
  refine ⟨hb, h ?_ a ha⟩
  rw [← hh.2.2.2, List.all_eq_true]
  intro x hx
  exact Array.all_eq_true_iff_forall_mem.1 hh.2.1 x (Array.mem_toList_iff.1 (List.mem_of_mem_drop hx))

/-- A guarded quiet operation in the head of a drawn region. -/
def RHG (ρ : Option Nat) (P : Program) (N : Nat) (D : List Deferred) (ops : Array Oper) (Q : Exit → Act → World → Prop) (S : World → Prop) (n : Nat) (tl : List Oper) (l : List Nat) (b0 want : Bool) (G E : Env) (w : World) : Prop :=
  S w → ∀ a, Agree N D a E → (b0 = want → Knows a G) → ∀ listed, listed = listedBut ops n l → HeadInv .any ops n listed → wpM ρ P .any ops Q S n (tailL ρ P ops Q n tl) l.length listed a w
theorem RHG.start {S : World → Prop} {n : Nat} {tl : List Oper} {l : List Nat} (t : Nat) (want : Bool) {b0 : Bool} {E : Env} {w : World} (_hb : look E t = some (.bool b0)) (h : RHG ρ P N D ops Q S n tl l b0 want E E w) : RH ρ P N D ops Q S n tl l E w := fun hS a ha => h hS a ha fun _ => ha.knows
theorem RHG.q {d : Nat} {op : Op} {ty : TypeId} {pos : String} {af : Array Edge} {lo : List Oper} {S : World → Prop} {n i : Nat} {tl : List Oper} {l : List Nat} {G E : Env} {w : World} {v : Value} {j t : Nat} {want b0 : Bool} (hh : Head N lo.toArray n tl) (hc : Calm Q) (ho : lo[i]? = some ⟨some d, op, ty, pos, af, some (j, want)⟩) (hsb : stepQ lo.toArray n i l = true)
    (hj : (lo.toArray[j]?).bind (·.dst) = some t) (hb : look E t = some (.bool b0)) (hf : fresh E ⟨some d, op, ty, pos, af, some (j, want)⟩ = true)
    (hq : b0 = want → Qt P S G ⟨some d, op, ty, pos, af, some (j, want)⟩ v) (h : RHG ρ P N D lo.toArray Q S n tl l b0 want ((d, v) :: G) E w) : RHG ρ P N D lo.toArray Q S n tl (i :: l) b0 want G E w := fun hS a ha hG listed hl inv => by
  subst hl
  have hg : (⟨some d, op, ty, pos, af, some (j, want)⟩ : Oper).guard = some (j, want) := rfl
  have ho : lo.toArray[i]? = some ⟨some d, op, ty, pos, af, some (j, want)⟩ := by simpa using ho
  simp only [stepQ, Bool.and_eq_true, decide_eq_true_eq, List.contains_iff_mem] at hsb
  obtain ⟨⟨⟨hin, hrd⟩, hfr⟩, hset⟩ := hsb
  have hdo : dstOK N ⟨some d, op, ty, pos, af, some (j, want)⟩ = true := Array.all_eq_true_iff_forall_mem.1 hh.2.1 _ (Array.mem_of_getElem? ho)
  have hinv := inv.set hrd hin
  rw [hset] at hinv
  by_cases hw : b0 = want
  · have hk := hG hw
    have H := h hS _ (ha.keep hf hdo v) (fun _ => (Agree.put (D := D) ⟨ha.size, ha.defers, hk⟩ hdo v).knows) _ rfl hinv
    rw [← hset] at H
    refine wpM_first ho hh.1.2 (Region.noSelect_spec hh.1.1) (fun c a w => hc c a _ _ w) hh.2.2.1 hin ?_ _ _ _ _ inv (Region.free_spec ho hfr) hrd (.inl ⟨Runs.guard hg hj hb hw a ha.knows, fun w' hw' => hq hw a hk w' hw'⟩) hS H
    intro listed a w hL j hj
    exact seqB_ready hL.1 j hj
  · have H := h hS _ (ha.keep hf hdo undef) (fun h => absurd h hw) _ rfl hinv
    rw [← hset] at H
    refine wpM_first ho hh.1.2 (Region.noSelect_spec hh.1.1) (fun c a w => hc c a _ _ w) hh.2.2.1 hin ?_ _ _ _ _ inv (Region.free_spec ho hfr) hrd (.inr ⟨Skips.guard hg hj hb (by cases b0 <;> cases want <;> simp at hw ⊢) a ha.knows, rfl⟩) hS H
    intro listed a w hL j hj
    exact seqB_ready hL.1 j hj
theorem RHG.pick {lo : List Oper} {S : World → Prop} {n i : Nat} {tl : List Oper} {l : List Nat} {b0 want r : Bool} {G E : Env} {w : World} {d : Nat} {cn x y : Operand} {ty : TypeId} {pos : String} {af : Array Edge} {bc : Bool} (hh : Head N lo.toArray n tl) (hc : Calm Q)
    (ho : lo[i]? = some ⟨some d, .pick cn x y, ty, pos, af, none⟩) (hsb : stepQ lo.toArray n i l = true) (hcn : ev E cn = some (.bool bc)) (hv : ∀ a : Act, Knows a E → (b0 = want → Knows a G) → (if bc then a.eval x else a.eval y) = .bool r)
    (h : RH ρ P N D lo.toArray Q S n tl l ((d, .bool r) :: E) w) : RHG ρ P N D lo.toArray Q S n tl (i :: l) b0 want G E w := fun hS a ha hG listed hl inv => by
  subst hl
  have ho : lo.toArray[i]? = some ⟨some d, .pick cn x y, ty, pos, af, none⟩ := by simpa using ho
  simp only [stepQ, Bool.and_eq_true, decide_eq_true_eq, List.contains_iff_mem] at hsb
  obtain ⟨⟨⟨hin, hrd⟩, hfr⟩, hset⟩ := hsb
  have hdo : dstOK N (⟨some d, .pick cn x y, ty, pos, af, none⟩ : Oper) = true := Array.all_eq_true_iff_forall_mem.1 hh.2.1 _ (Array.mem_of_getElem? ho)
  have hinv := inv.set hrd hin
  rw [hset] at hinv
  have H := h hS _ (ha.put hdo (.bool r)) _ rfl hinv
  rw [← hset] at H
  refine wpM_first ho hh.1.2 (Region.noSelect_spec hh.1.1) (fun c a w => hc c a _ _ w) hh.2.2.1 hin ?_ _ _ _ _ inv (Region.free_spec ho hfr) hrd (.inl ⟨by simp [Region.wanted], fun w _ => ?_⟩) hS H
  · intro listed a w hL j hj
    exact seqB_ready hL.1 j hj
  · rw [run_pick (ha.knows.ev hcn), hv a ha.knows hG]
theorem RHG.and {lo : List Oper} {S : World → Prop} {n i : Nat} {tl : List Oper} {l : List Nat} {b c : Bool} {G E : Env} {w : World} {d : Nat} {cn x : Operand} {ty : TypeId} {pos : String} {af : Array Edge} (hh : Head N lo.toArray n tl) (hcm : Calm Q)
    (ho : lo[i]? = some ⟨some d, .pick cn x (.const (.bool false)), ty, pos, af, none⟩) (hsb : stepQ lo.toArray n i l = true) (hc : ev E cn = some (.bool b)) (hx : ev G x = some (.bool c))
    (h : RH ρ P N D lo.toArray Q S n tl l ((d, .bool (b && c)) :: E) w) : RHG ρ P N D lo.toArray Q S n tl (i :: l) b true G E w :=
  RHG.pick hh hcm ho hsb hc (fun a ha hG => by
    cases b with
    | true => simp [(hG rfl).ev hx]
    | false => simp [Act.eval]) h
theorem RHG.or {lo : List Oper} {S : World → Prop} {n i : Nat} {tl : List Oper} {l : List Nat} {b c : Bool} {G E : Env} {w : World} {d : Nat} {cn y : Operand} {ty : TypeId} {pos : String} {af : Array Edge} (hh : Head N lo.toArray n tl) (hcm : Calm Q)
    (ho : lo[i]? = some ⟨some d, .pick cn (.const (.bool true)) y, ty, pos, af, none⟩) (hsb : stepQ lo.toArray n i l = true) (hc : ev E cn = some (.bool b)) (hy : ev G y = some (.bool c))
    (h : RH ρ P N D lo.toArray Q S n tl l ((d, .bool (b || c)) :: E) w) : RHG ρ P N D lo.toArray Q S n tl (i :: l) b false G E w :=
  RHG.pick hh hcm ho hsb hc (fun a ha hG => by
    cases b with
    | true => simp [Act.eval]
    | false => simp [(hG rfl).ev hy]) h
end
end Go.Gx

/- Memory told as a list of pieces that lie apart: reading, writing and making a block, choosing and joining pieces. No condition. -/
namespace Go.Gx
open Go

theorem nodup_shift (n c : Nat) : ((List.range n).map (· + c)).Nodup := by
  rw [List.Nodup, List.pairwise_map]
  exact List.nodup_range.imp fun h e => h (by omega)

theorem nodup_flatMap {α β : Type} {l : List α} {f : α → List β} : (l.flatMap f).Nodup ↔ (∀ a ∈ l, (f a).Nodup) ∧ l.Pairwise (fun a b => ∀ x ∈ f a, ∀ y ∈ f b, x ≠ y) := by
  unfold List.Nodup
  exact List.pairwise_flatMap
theorem nodup_inj {α : Type} {l : List α} (h : l.Nodup) {i j : Nat} (hi : i < l.length) (hj : j < l.length) (e : l[i] = l[j]) : i = j := by
  rcases Nat.lt_trichotomy i j with hlt | rfl | hlt
  · exact absurd e (List.pairwise_iff_getElem.1 h i j hi hj hlt)
  · rfl
  · exact absurd e.symm (List.pairwise_iff_getElem.1 h j i hj hi hlt)

abbrev Frag := List (Nat × Obj)
abbrev HP := Frag → Prop

def pt (b : Nat) (o : Obj) : HP := fun F => F = [(b, o)]
def emp : HP := fun F => F = []
def Star (ps : List HP) : HP := fun F => ∃ G : Nat → Frag, (∀ i (p : HP), ps[i]? = some p → p (G i)) ∧ F = (List.range ps.length).flatMap G

/-- What of a world is no memory: as it was. -/
def Outs (oo w : World) : Prop := w.os = oo.os ∧ w.tape = oo.tape ∧ w.output = oo.output
theorem Outs.via {oo w w' : World} (h : Outs oo w) (e : Outs w w') : Outs oo w' := ⟨e.1.trans h.1, e.2.1.trans h.2.1, e.2.2.trans h.2.2⟩

structure Lies (oo w : World) (n : Nat) (F : Nat → Frag) : Prop where
  own : ∀ i, i < n → ((F i).map (·.1)).Nodup
  apart : ∀ i j, i < n → j < n → i ≠ j → ∀ b, b ∈ (F i).map (·.1) → b ∉ (F j).map (·.1)
  lies : ∀ i, i < n → ∀ x ∈ F i, w.heap[x.1]? = some x.2
  outs : Outs oo w

variable {oo : World}

def Sat (oo w : World) (L : List HP) : Prop := ∃ F : Nat → Frag, (∀ i (p : HP), L[i]? = some p → p (F i)) ∧ Lies oo w L.length F

theorem Sat.get {w : World} {L : List HP} (h : Sat oo w L) (k : Nat) {b : Nat} {o : Obj} (hk : L[k]? = some (pt b o)) : w.heap[b]? = some o := by
  obtain ⟨F, hF, hl⟩ := h
  have h1 : F k = [(b, o)] := hF k _ hk
  have hlt : k < L.length := (List.getElem?_eq_some_iff.1 hk).1
  exact hl.lies k hlt (b, o) (by rw [h1]; simp)

theorem Sat.at {w : World} {L : List HP} (h : Sat oo w L) (k : Nat) {b : Nat} {o : Obj} (hk : L[k]? = some (pt b o)) : ∀ w' : World, w'.heap = w.heap → w'.heap[b]? = some o := fun _ e => by rw [e]; exact h.get k hk

theorem Sat.heap {w w' : World} {L : List HP} (h : Sat oo w L) (e : w'.heap = w.heap) (eo : Outs w w' := by exact ⟨rfl, rfl, rfl⟩) : Sat oo w' L := by
  obtain ⟨F, hF, hl⟩ := h
  exact ⟨F, hF, hl.own, hl.apart, fun i hi x hx => by rw [e]; exact hl.lies i hi x hx, hl.outs.via eo⟩

theorem Sat.drew {w : World} {L : List HP} (h : Sat oo w L) : Sat oo w.drew L := h.heap rfl

/-- Writing a block. -/
theorem Sat.put {w w' : World} {L : List HP} (h : Sat oo w L) (k : Nat) {b : Nat} {o : Obj} (hk : L[k]? = some (pt b o)) (o' : Obj)
    (hb : w'.heap[b]? = some o') (hne : ∀ c, c ≠ b → w'.heap[c]? = w.heap[c]?) (eo : Outs w w' := by exact ⟨rfl, rfl, rfl⟩) : Sat oo w' (L.set k (pt b o')) := by
  obtain ⟨F, hF, hl⟩ := h
  have h1 : F k = [(b, o)] := hF k _ hk
  have hlt : k < L.length := (List.getElem?_eq_some_iff.1 hk).1
  have hkeys : ∀ i, ((if i = k then [(b, o')] else F i) : Frag).map (·.1) = (F i).map (·.1) := fun i => by
    by_cases e : i = k
    · subst e; simp [h1]
    · simp [e]
  refine ⟨fun i => if i = k then [(b, o')] else F i, ?_, ?_, ?_, ?_, hl.outs.via eo⟩
  · intro i p hp
    by_cases e : i = k
    · subst e
      rw [List.getElem?_set_self hlt] at hp
      injection hp with hp
      subst hp
      simp [pt]
    · rw [List.getElem?_set_ne (Ne.symm e)] at hp
      simpa [e] using hF i p hp
  · intro i hi
    rw [hkeys]
    exact hl.own i (by simpa using hi)
  · intro i j hi hj hij c hc
    rw [hkeys] at *
    exact hl.apart i j (by simpa using hi) (by simpa using hj) hij c hc
  · intro i hi x hx
    by_cases e : i = k
    · subst e
      simp only [if_true, List.mem_singleton] at hx
      subst hx
      exact hb
    · simp only [e, if_false] at hx
      have hi' : i < L.length := by simpa using hi
      have hxb : x.1 ≠ b := by
        intro e2
        refine hl.apart i k hi' hlt e x.1 (List.mem_map.2 ⟨x, hx, rfl⟩) ?_
        rw [h1, e2]; simp
      rw [hne _ hxb]
      exact hl.lies i hi' x hx

theorem Sat.lt {w : World} {L : List HP} {F : Nat → Frag} (hl : Lies oo w L.length F) {i : Nat} (hi : i < L.length) {b : Nat} (hb : b ∈ (F i).map (·.1)) : b < w.heap.size := by
  obtain ⟨x, hx, rfl⟩ := List.mem_map.1 hb
  have := hl.lies i hi x hx
  rcases Nat.lt_or_ge x.1 w.heap.size with h | h
  · exact h
  · rw [Array.getElem?_eq_none h] at this; cases this

/-- A new block. -/
theorem Sat.new {w w' : World} {L : List HP} (h : Sat oo w L) (o : Obj) (e : w'.heap = w.heap.push o) (eo : Outs w w' := by exact ⟨rfl, rfl, rfl⟩) : Sat oo w' (pt w.heap.size o :: L) := by
  obtain ⟨F, hF, hl⟩ := h
  refine ⟨fun i => match i with | 0 => [(w.heap.size, o)] | i + 1 => F i, ?_, ?_, ?_, ?_, hl.outs.via eo⟩
  · intro i p hp
    cases i with
    | zero => simp at hp; subst hp; simp [pt]
    | succ i => exact hF i p (by simpa using hp)
  · intro i hi
    cases i with
    | zero => simp
    | succ i => exact hl.own i (by simpa using hi)
  · intro i j hi hj hij c hc hc'
    cases i with
    | zero =>
      cases j with
      | zero => exact hij rfl
      | succ j =>
        have hj' : j < L.length := by simpa using hj
        have := Sat.lt hl hj' hc'
        simp at hc
        omega
    | succ i =>
      have hi' : i < L.length := by simpa using hi
      cases j with
      | zero =>
        have := Sat.lt hl hi' hc
        simp at hc'
        omega
      | succ j => exact hl.apart i j hi' (by simpa using hj) (by omega) c hc hc'
  · intro i hi x hx
    cases i with
    | zero => simp at hx; subst hx; rw [e]; simp
    | succ i =>
      have hi' : i < L.length := by simpa using hi
      have hx' := hl.lies i hi' x hx
      have hlt : x.1 < w.heap.size := Sat.lt hl hi' (List.mem_map.2 ⟨x, hx, rfl⟩)
      rw [e, Array.getElem?_push_lt hlt]
      rw [Array.getElem?_eq_getElem hlt] at hx'
      exact hx'

/-- Choosing pieces, each at most once. -/
theorem Sat.sel {w : World} {L : List HP} (h : Sat oo w L) (s : List Nat) {L' : List HP} (hs : s.Nodup) (hL : s.map (fun i => L[i]?) = L'.map some) : Sat oo w L' := by
  obtain ⟨F, hF, hl⟩ := h
  have hlen : s.length = L'.length := by have := congrArg List.length hL; simpa using this
  have hat : ∀ i (hi : i < L'.length), L[s[i]'(by omega)]? = some L'[i] := fun i hi => by
    have h1 : (s.map (fun i => L[i]?))[i]'(by simp; omega) = (L'.map some)[i]'(by simp; omega) := by simp only [hL]
    simpa using h1
  have hsl : ∀ i (hi : i < L'.length), s[i]'(by omega) < L.length := fun i hi => (List.getElem?_eq_some_iff.1 (hat i hi)).1
  have hget : ∀ i (hi : i < L'.length), s.getD i 0 = s[i]'(by omega) := fun i hi => by simp [List.getElem?_eq_getElem (show i < s.length by omega)]
  refine ⟨fun i => F (s.getD i 0), ?_, ?_, ?_, ?_, hl.outs⟩
  · intro i p hp
    obtain ⟨hi, rfl⟩ := List.getElem?_eq_some_iff.1 hp
    show L'[i] (F (s.getD i 0))
    rw [hget i hi]
    exact hF _ _ (hat i hi)
  · intro i hi
    show ((F (s.getD i 0)).map (·.1)).Nodup
    rw [hget i hi]
    exact hl.own _ (hsl i hi)
  · intro i j hi hj hij
    show ∀ b, b ∈ (F (s.getD i 0)).map (·.1) → b ∉ (F (s.getD j 0)).map (·.1)
    rw [hget i hi, hget j hj]
    refine hl.apart _ _ (hsl i hi) (hsl j hj) ?_
    intro e
    exact hij (nodup_inj hs _ _ e)
  · intro i hi
    show ∀ x ∈ F (s.getD i 0), _
    rw [hget i hi]
    exact hl.lies _ (hsl i hi)

def selL (L : List HP) : List Nat → Option (List HP)
  | [] => some []
  | i :: t => match L[i]?, selL L t with
    | some p, some r => some (p :: r)
    | _, _ => none
theorem selL_map {L : List HP} : ∀ (t : List Nat) (r : List HP), selL L t = some r → t.map (fun i => L[i]?) = r.map some := by
  intro t
  induction t with
  | nil => intro r h; simp [selL] at h; subst h; rfl
  | cons i t ih =>
    intro r h
    simp only [selL] at h
    cases h1 : L[i]? with
    | none => rw [h1] at h; simp at h
    | some p =>
      cases h2 : selL L t with
      | none => rw [h1, h2] at h; simp at h
      | some q =>
        rw [h1, h2] at h
        simp only [Option.some.injEq] at h
        subst h
        simp [h1, ih q h2]
theorem Sat.pick {w : World} {L : List HP} (h : Sat oo w L) (s : List Nat) {L' : List HP} (hs : s.Nodup) (hL : selL L s = some L') : Sat oo w L' := h.sel s hs (selL_map s L' hL)

/-- The last pieces as one. -/
theorem Sat.join {w : World} {A B : List HP} (h : Sat oo w (A ++ B)) : Sat oo w (A ++ [Star B]) := by
  obtain ⟨F, hF, hl⟩ := h
  have keysB : ∀ c, c ∈ ((List.range B.length).flatMap fun i => F (A.length + i)).map (·.1) → ∃ i, i < B.length ∧ c ∈ (F (A.length + i)).map (·.1) := by
    intro c hc
    obtain ⟨x, hx, rfl⟩ := List.mem_map.1 hc
    obtain ⟨i, hi, hx⟩ := List.mem_flatMap.1 hx
    exact ⟨i, List.mem_range.1 hi, List.mem_map.2 ⟨x, hx, rfl⟩⟩
  refine ⟨fun i => if i < A.length then F i else (List.range B.length).flatMap fun i => F (A.length + i), ?_, ?_, ?_, ?_, hl.outs⟩
  · intro i p hp
    by_cases hi : i < A.length
    · simp only [hi, if_true]
      rw [List.getElem?_append_left hi] at hp
      exact hF i p (by rw [List.getElem?_append_left hi]; exact hp)
    · simp only [hi, if_false]
      rw [List.getElem?_append_right (by omega)] at hp
      have hz : i - A.length = 0 := by
        rcases Nat.eq_zero_or_pos (i - A.length) with h | h
        · exact h
        · rw [List.getElem?_eq_none (by simp; omega)] at hp; cases hp
      rw [hz] at hp
      simp at hp
      subst hp
      exact ⟨fun i => F (A.length + i), fun j p hj => hF _ p (by rw [List.getElem?_append_right (by omega)]; simpa using hj), rfl⟩
  · intro i hi
    by_cases hi' : i < A.length
    · simp only [hi', if_true]
      exact hl.own i (by simp; omega)
    · simp only [hi', if_false]
      rw [List.map_flatMap]
      refine nodup_flatMap.2 ⟨fun j hj => hl.own _ (by simp; have := List.mem_range.1 hj; omega), ?_⟩
      refine List.Pairwise.imp_of_mem ?_ (List.nodup_range (n := B.length))
      intro a b ha hb hne c hc c' hc' e
      subst e
      have ha := List.mem_range.1 ha
      have hb := List.mem_range.1 hb
      exact hl.apart (A.length + a) (A.length + b) (by simp; omega) (by simp; omega) (by omega) c hc hc'
  · intro i j hi hj hij c hc hc'
    simp only [List.length_append, List.length_cons, List.length_nil] at hi hj
    by_cases hi' : i < A.length
    · simp only [hi', if_true] at hc
      by_cases hj' : j < A.length
      · simp only [hj', if_true] at hc'
        exact hl.apart i j (by simp; omega) (by simp; omega) hij c hc hc'
      · simp only [hj', if_false] at hc'
        obtain ⟨k, hk, hc'⟩ := keysB c hc'
        exact hl.apart i (A.length + k) (by simp; omega) (by simp; omega) (by omega) c hc hc'
    · simp only [hi', if_false] at hc
      obtain ⟨k, hk, hc⟩ := keysB c hc
      by_cases hj' : j < A.length
      · simp only [hj', if_true] at hc'
        exact hl.apart (A.length + k) j (by simp; omega) (by simp; omega) (by omega) c hc hc'
      · omega
  · intro i hi x hx
    by_cases hi' : i < A.length
    · simp only [hi', if_true] at hx
      exact hl.lies i (by simp; omega) x hx
    · simp only [hi', if_false] at hx
      obtain ⟨k, hk, hx⟩ := List.mem_flatMap.1 hx
      exact hl.lies (A.length + k) (by simp; have := List.mem_range.1 hk; omega) x hx

theorem Sat.split {w : World} {A B : List HP} (h : Sat oo w (A ++ [Star B])) : Sat oo w (A ++ B) := by
  obtain ⟨F, hF, hl⟩ := h
  obtain ⟨G, hG, hFG⟩ : Star B (F A.length) := hF A.length _ (by simp)
  have hlast : A.length < (A ++ [Star B]).length := by simp
  have hkeys : ∀ j, j < B.length → ∀ c, c ∈ (G j).map (·.1) → c ∈ (F A.length).map (·.1) := by
    intro j hj c hc
    rw [hFG]
    obtain ⟨x, hx, rfl⟩ := List.mem_map.1 hc
    exact List.mem_map.2 ⟨x, List.mem_flatMap.2 ⟨j, List.mem_range.2 hj, hx⟩, rfl⟩
  have hnd := hl.own A.length hlast
  rw [hFG, List.map_flatMap, nodup_flatMap] at hnd
  refine ⟨fun i => if i < A.length then F i else G (i - A.length), ?_, ?_, ?_, ?_, hl.outs⟩
  · intro i p hp
    by_cases hi : i < A.length
    · simp only [hi, if_true]
      rw [List.getElem?_append_left hi] at hp
      exact hF i p (by rw [List.getElem?_append_left hi]; exact hp)
    · simp only [hi, if_false]
      rw [List.getElem?_append_right (by omega)] at hp
      exact hG _ p hp
  · intro i hi
    simp only [List.length_append] at hi
    by_cases hi' : i < A.length
    · simp only [hi', if_true]
      exact hl.own i (by simp; omega)
    · simp only [hi', if_false]
      exact hnd.1 _ (List.mem_range.2 (by omega))
  · intro i j hi hj hij c hc hc'
    simp only [List.length_append] at hi hj
    by_cases hi' : i < A.length
    · simp only [hi', if_true] at hc
      by_cases hj' : j < A.length
      · simp only [hj', if_true] at hc'
        exact hl.apart i j (by simp; omega) (by simp; omega) hij c hc hc'
      · simp only [hj', if_false] at hc'
        exact hl.apart i A.length (by simp; omega) hlast (by omega) c hc (hkeys _ (by omega) c hc')
    · simp only [hi', if_false] at hc
      by_cases hj' : j < A.length
      · simp only [hj', if_true] at hc'
        exact hl.apart A.length j hlast (by simp; omega) (by omega) c (hkeys _ (by omega) c hc) hc'
      · simp only [hj', if_false] at hc'
        have hpw := List.pairwise_iff_getElem.1 hnd.2
        rcases Nat.lt_or_gt_of_ne (show i - A.length ≠ j - A.length by omega) with hlt | hlt
        · have := hpw (i - A.length) (j - A.length) (by simp; omega) (by simp; omega) hlt
          simp only [List.getElem_range] at this
          exact this _ hc _ hc' rfl
        · have := hpw (j - A.length) (i - A.length) (by simp; omega) (by simp; omega) hlt
          simp only [List.getElem_range] at this
          exact this _ hc' _ hc rfl
  · intro i hi x hx
    simp only [List.length_append] at hi
    by_cases hi' : i < A.length
    · simp only [hi', if_true] at hx
      exact hl.lies i (by simp; omega) x hx
    · simp only [hi', if_false] at hx
      refine hl.lies A.length hlast x ?_
      rw [hFG]
      exact List.mem_flatMap.2 ⟨_, List.mem_range.2 (by omega), hx⟩

/-- A piece for another one that its fragments serve as well. -/
theorem Sat.imp {w : World} {L : List HP} (h : Sat oo w L) (k : Nat) {p p' : HP} (hk : L[k]? = some p) (hp : ∀ F, p F → p' F) : Sat oo w (L.set k p') := by
  obtain ⟨F, hF, hl⟩ := h
  have hlt : k < L.length := (List.getElem?_eq_some_iff.1 hk).1
  refine ⟨F, ?_, by simpa using hl⟩
  intro i q hq
  by_cases e : i = k
  · subst e
    rw [List.getElem?_set_self hlt] at hq
    injection hq with hq
    subst hq
    exact hp _ (hF _ _ hk)
  · rw [List.getElem?_set_ne (Ne.symm e)] at hq
    exact hF i q hq

/-- What a piece says of its fragment, whatever that is. -/
theorem Sat.ex {w : World} {L : List HP} {α : Sort _} (h : Sat oo w L) (k : Nat) {p : HP} {q : α → HP} (hk : L[k]? = some p) (hp : ∀ F, p F → ∃ x, q x F) : ∃ x, Sat oo w (L.set k (q x)) := by
  obtain ⟨F, hF, hl⟩ := h
  have hlt : k < L.length := (List.getElem?_eq_some_iff.1 hk).1
  obtain ⟨x, hx⟩ := hp _ (hF _ _ hk)
  refine ⟨x, F, ?_, by simpa using hl⟩
  intro i r hr
  by_cases e : i = k
  · subst e
    rw [List.getElem?_set_self hlt] at hr
    injection hr with hr
    subst hr
    exact hx
  · rw [List.getElem?_set_ne (Ne.symm e)] at hr
    exact hF i r hr

theorem Sat.fact {w : World} {L : List HP} {φ : Prop} (h : Sat oo w L) (k : Nat) {p : HP} (hk : L[k]? = some p) (hp : ∀ F, p F → φ) : φ := by
  obtain ⟨F, hF, hl⟩ := h
  exact hp _ (hF _ _ hk)

/-- A piece that is several, in the front. -/
theorem Sat.unstar {w : World} {B L : List HP} (h : Sat oo w (Star B :: L)) : Sat oo w (B ++ L) := by
  have h1 : Sat oo w (L ++ [Star B]) := by
    refine h.sel ((List.range L.length).map (· + 1) ++ [0]) ?_ ?_
    · rw [List.nodup_append]
      refine ⟨nodup_shift _ _, by simp, ?_⟩
      intro a ha b hb e
      simp at ha hb
      omega
    · rw [List.map_append, List.map_append, List.map_map]
      congr 1
      apply List.ext_getElem
      · simp
      · intro i h1 h2
        simp
  have h2 := h1.split
  refine h2.sel ((List.range B.length).map (· + L.length) ++ List.range L.length) ?_ ?_
  · rw [List.nodup_append]
    refine ⟨nodup_shift _ _, List.nodup_range, ?_⟩
    intro a ha b hb e
    simp at ha hb
    omega
  · rw [List.map_append, List.map_append, List.map_map]
    congr 1
    · apply List.ext_getElem
      · simp
      · intro i h1 h2
        simp at h1
        simp [List.getElem?_append_right, h1]
    · apply List.ext_getElem
      · simp
      · intro i h1 h2
        simp at h1
        simp [List.getElem?_append_left, h1]

theorem Sat.star {w : World} {B L : List HP} (h : Sat oo w (B ++ L)) : Sat oo w (Star B :: L) := by
  have h1 : Sat oo w (L ++ B) := by
    refine h.sel ((List.range L.length).map (· + B.length) ++ List.range B.length) ?_ ?_
    · rw [List.nodup_append]
      refine ⟨nodup_shift _ _, List.nodup_range, ?_⟩
      intro a ha b hb e
      simp at ha hb
      omega
    · rw [List.map_append, List.map_append, List.map_map]
      congr 1
      · apply List.ext_getElem
        · simp
        · intro i h1 h2
          simp at h1
          simp [List.getElem?_append_right, h1]
      · apply List.ext_getElem
        · simp
        · intro i h1 h2
          simp at h1
          simp [List.getElem?_append_left, h1]
  refine h1.join.sel (L.length :: List.range L.length) ?_ ?_
  · rw [List.nodup_cons]
    exact ⟨by simp, List.nodup_range⟩
  · rw [List.map_cons, List.map_cons]
    congr 1
    · simp
    · apply List.ext_getElem
      · simp
      · intro i h1 h2
        simp at h1
        simp [List.getElem?_append_left, h1]

/-- A contract: pieces in, pieces out, whatever else there is. -/
def Ct (P : Program) (f : FuncId) (args : Array Value) (pre : List HP) (post : Value → List HP → Prop) : Prop :=
  ∀ oo w R, Sat oo w (pre ++ [R]) → Calls P f args w fun e w' => ∃ v ps, e = .returned v ∧ post v ps ∧ Sat oo w' (ps ++ [R])

theorem Ct.mono {P : Program} {f : FuncId} {args : Array Value} {pre : List HP} {post post' : Value → List HP → Prop} (h : Ct P f args pre post) (hp : ∀ v ps, post v ps → post' v ps) : Ct P f args pre post' :=
  fun oo w R hS => (h oo w R hS).mono fun e w' ⟨v, ps, he, hv, hs⟩ => ⟨v, ps, he, hp v ps hv, hs⟩

/-- The call of a contract in a memory of more pieces: 's' chooses what the contract takes, in its order; the rest stays. -/
theorem Ct.call {P : Program} {f : FuncId} {args : Array Value} {pre : List HP} {post : Value → List HP → Prop} (h : Ct P f args pre post) {w : World} {L : List HP} (hS : Sat oo w L)
    (s t : List Nat) {rest : List HP} (hn : (s ++ t).Nodup) (hs : s.map (fun i => L[i]?) = pre.map some) (ht : t.map (fun i => L[i]?) = rest.map some) :
    Calls P f args w fun e w' => ∃ v ps, e = .returned v ∧ post v ps ∧ Sat oo w' (ps ++ rest) := by
  have h1 : Sat oo w (pre ++ rest) := hS.sel (s ++ t) hn (by rw [List.map_append, List.map_append, hs, ht])
  exact (h oo w (Star rest) h1.join).mono fun e w' ⟨v, ps, he, hv, hs⟩ => ⟨v, ps, he, hv, hs.split⟩
end Go.Gx

/- What each operation of the model does, told for an environment and for memory in pieces: quiet ones (Qt) and those with an effect (Ef). No condition; nothing of any program stands here. -/
namespace Go.Gx
open Go

class TI (P : Program) (t : Nat) (d : outParam TypeDesc) (n : outParam Nat) : Prop where
  u : P.underlying t = some d
  s : (P.info? t).map (·.size) = some n
class TZ (P : Program) (t : Nat) (z : outParam Value) : Prop where
  z : (P.info? t).bind (·.zero) = some z
class TB (P : Program) (t : Nat) (b : outParam Nat) : Prop where
  b : (P.info? t).map (·.bytes) = some b

def aggB : TypeDesc → Bool
  | .struct _ => true
  | .array _ _ => true
  | _ => false
class FD (P : Program) (s f : Nat) (off : outParam Nat) (ag : outParam Bool) (n : outParam Nat) : Prop where
  fd : ∃ fs fd df, P.underlying s = some (.struct fs) ∧ fs[f]? = some fd ∧ fd.offset = off ∧ P.underlying fd.type = some df ∧ aggB df = ag ∧ (P.info? fd.type).map (·.size) = some n

section
variable {P : Program}
theorem run_underlying {t : Nat} {d : TypeDesc} {n : Nat} (h : TI P t d n) (w : World) : (underlying t).run P w = .ok d w := by
  simp [underlying, program, Sem.run, h.u, pure, bind, Sem.bind]
theorem run_typeInfo {t : Nat} {i : TypeInfo} (h : P.info? t = some i) (w : World) : (typeInfo t).run P w = .ok i w := by
  simp [typeInfo, program, Sem.run, h, pure, bind, Sem.bind]
theorem run_sizeOf {t : Nat} {d : TypeDesc} {n : Nat} (h : TI P t d n) (w : World) : (sizeOf t).run P w = .ok n w := by
  have hs := h.s
  cases hi : P.info? t with
  | none => rw [hi] at hs; cases hs
  | some i =>
    rw [hi] at hs
    simp only [Option.map_some, Option.some.injEq] at hs
    unfold sizeOf
    rw [Sem.run_bind, run_typeInfo hi]
    simp [hs]
theorem run_zeroValue {t : Nat} {z : Value} (h : TZ P t z) (w : World) : (zeroValue t).run P w = .ok z w := by
  have hs := h.z
  cases hi : P.info? t with
  | none => rw [hi] at hs; cases hs
  | some i =>
    rw [hi] at hs
    simp only [Option.bind_some] at hs
    unfold zeroValue
    rw [Sem.run_bind, run_typeInfo hi]
    simp [hs]
theorem run_isAgg {t : Nat} {d : TypeDesc} {n : Nat} (h : TI P t d n) (w : World) : (isAgg t).run P w = .ok (aggB d) w := by
  unfold isAgg
  rw [Sem.run_bind, run_underlying h]
  cases d <;> simp [aggB]

variable {S : World → Prop} {E : Env} {dst : Option Nat} {ty : TypeId} {pos : String} {af : Array Edge} {g : Option (Nat × Bool)}

theorem equal_bool {t n : Nat} {b c : Bool} (hT : TI P t .bool n) (w : World) : (Op.equal t (.bool b) (.bool c)).run P w = .ok (b == c) w := by
  show (Op.equalIn (9999 + 1) t (.bool b) (.bool c)).run P w = _
  unfold Op.equalIn
  rw [Sem.run_bind, run_underlying hT]
  simp
theorem equal_ptr {t e n : Nat} {p : Option Addr} (hT : TI P t (.pointer e) n) (w : World) : (Op.equal t (.pointer p) (.pointer none)).run P w = .ok p.isNone w := by
  show (Op.equalIn (9999 + 1) t (.pointer p) (.pointer none)).run P w = _
  unfold Op.equalIn
  rw [Sem.run_bind, run_underlying hT]
  cases p <;> simp
theorem equal_sl {t e n l c l' c' : Nat} {p : Option Addr} (hT : TI P t (.slice e) n) (w : World) : (Op.equal t (.slice p l c) (.slice none l' c')).run P w = .ok p.isNone w := by
  show (Op.equalIn (9999 + 1) t (.slice p l c) (.slice none l' c')).run P w = _
  unfold Op.equalIn
  rw [Sem.run_bind, run_underlying hT]
  cases p <;> simp

/-! ### quiet -/
theorem Qt.mv {x : Operand} {v : Value} (hx : ev E x = some v) : Qt P S E ⟨dst, .move x, ty, pos, af, g⟩ v := fun a ha w _ => by
  simp [execOp, ha.ev hx]
theorem Qt.as {x : Operand} {v : Value} (hx : ev E x = some v) : Qt P S E ⟨dst, .assign x, ty, pos, af, g⟩ v := fun a ha w _ => by
  simp [execOp, ha.ev hx]
theorem Qt.pickT {c x y : Operand} {t : Bool} {v : Value} (hc : ev E c = some (.bool t)) (ht : t = true) (hx : ev E x = some v) : Qt P S E ⟨dst, .pick c x y, ty, pos, af, g⟩ v := fun a ha w _ => by
  simp [execOp, ha.ev hx, ha.ev hc, asBool, ht]
theorem Qt.pickF {c x y : Operand} {t : Bool} {v : Value} (hc : ev E c = some (.bool t)) (ht : t = false) (hx : ev E y = some v) : Qt P S E ⟨dst, .pick c x y, ty, pos, af, g⟩ v := fun a ha w _ => by
  simp [execOp, ha.ev hx, ha.ev hc, asBool, ht]
theorem Qt.nil {x : Operand} {p : Addr} (hx : ev E x = some (.pointer (some p))) : Qt P S E ⟨dst, .nilCheck x, ty, pos, af, g⟩ (.pointer (some p)) := fun a ha w _ => by
  simp [execOp, ha.ev hx]
theorem Qt.ext {x : Operand} {vs : Array Value} {i : Nat} {v : Value} (hx : ev E x = some (.tuple vs)) (hv : vs.toList[i]? = some v) : Qt P S E ⟨dst, .extract x i, ty, pos, af, g⟩ v := fun a ha w _ => by
  have hv : vs[i]? = some v := by simpa using hv
  simp [execOp, ha.ev hx, Instr.extract, hv]
theorem Qt.mkf {fn : Fn} : Qt P S E ⟨dst, .makeFunc fn #[] #[], ty, pos, af, g⟩ (.func fn #[] #[]) := fun a ha w _ => by
  simp [execOp, Instr.makeFunc]
theorem Qt.mkf1 {fn : Fn} {x : Operand} {v : Value} (hx : ev E x = some v) : Qt P S E ⟨dst, .makeFunc fn #[] #[x], ty, pos, af, g⟩ (.func fn #[] #[v]) := fun a ha w _ => by
  simp [execOp, Instr.makeFunc, ha.ev hx]
theorem Qt.mkf2 {fn : Fn} {x y : Operand} {v u : Value} (hx : ev E x = some v) (hy : ev E y = some u) : Qt P S E ⟨dst, .makeFunc fn #[] #[x, y], ty, pos, af, g⟩ (.func fn #[] #[v, u]) := fun a ha w _ => by
  simp [execOp, Instr.makeFunc, ha.ev hx, ha.ev hy]
theorem Qt.not {x : Operand} {t : Nat} {b : Bool} (hx : ev E x = some (.bool b)) : Qt P S E ⟨dst, .unOp .not t x, ty, pos, af, g⟩ (.bool !b) := fun a ha w _ => by
  simp [execOp, ha.ev hx, Op.unary]

theorem Qt.add {x y : Operand} {t t' : Nat} {k : IntKind} {m n : Int} (hx : ev E x = some (.int k m)) (hy : ev E y = some (.int k n)) : Qt P S E ⟨dst, .binOp .add t x y t', ty, pos, af, g⟩ (.int k (k.wrap (m + n))) := fun a ha w _ => by
  simp [execOp, ha.ev hx, ha.ev hy, eqGuard, binOp, Op.intArith]
theorem Qt.sub {x y : Operand} {t t' : Nat} {k : IntKind} {m n : Int} (hx : ev E x = some (.int k m)) (hy : ev E y = some (.int k n)) : Qt P S E ⟨dst, .binOp .sub t x y t', ty, pos, af, g⟩ (.int k (k.wrap (m - n))) := fun a ha w _ => by
  simp [execOp, ha.ev hx, ha.ev hy, eqGuard, binOp, Op.intArith]
theorem Qt.mul {x y : Operand} {t t' : Nat} {k : IntKind} {m n : Int} (hx : ev E x = some (.int k m)) (hy : ev E y = some (.int k n)) : Qt P S E ⟨dst, .binOp .mul t x y t', ty, pos, af, g⟩ (.int k (k.wrap (m * n))) := fun a ha w _ => by
  simp [execOp, ha.ev hx, ha.ev hy, eqGuard, binOp, Op.intArith]
theorem Qt.quo {x y : Operand} {t t' : Nat} {k : IntKind} {m n : Int} (hx : ev E x = some (.int k m)) (hy : ev E y = some (.int k n)) (hn : n ≠ 0) : Qt P S E ⟨dst, .binOp .quo t x y t', ty, pos, af, g⟩ (.int k (k.wrap (m.tdiv n))) := fun a ha w _ => by
  simp [execOp, ha.ev hx, ha.ev hy, eqGuard, binOp, Op.intDiv, hn]
theorem Qt.rem {x y : Operand} {t t' : Nat} {k : IntKind} {m n : Int} (hx : ev E x = some (.int k m)) (hy : ev E y = some (.int k n)) (hn : n ≠ 0) : Qt P S E ⟨dst, .binOp .rem t x y t', ty, pos, af, g⟩ (.int k (m.tmod n)) := fun a ha w _ => by
  simp [execOp, ha.ev hx, ha.ev hy, eqGuard, binOp, Op.intDiv, hn]
theorem Qt.and {x y : Operand} {t t' : Nat} {k : IntKind} {m n : Int} (hx : ev E x = some (.int k m)) (hy : ev E y = some (.int k n)) : Qt P S E ⟨dst, .binOp .and t x y t', ty, pos, af, g⟩ (.int k (k.wrap (BitVec.ofInt k.bits m &&& BitVec.ofInt k.bits n).toNat)) := fun a ha w _ => by
  simp [execOp, ha.ev hx, ha.ev hy, eqGuard, binOp, Op.intBits]
theorem Qt.or {x y : Operand} {t t' : Nat} {k : IntKind} {m n : Int} (hx : ev E x = some (.int k m)) (hy : ev E y = some (.int k n)) : Qt P S E ⟨dst, .binOp .or t x y t', ty, pos, af, g⟩ (.int k (k.wrap (BitVec.ofInt k.bits m ||| BitVec.ofInt k.bits n).toNat)) := fun a ha w _ => by
  simp [execOp, ha.ev hx, ha.ev hy, eqGuard, binOp, Op.intBits]
theorem Qt.xor {x y : Operand} {t t' : Nat} {k : IntKind} {m n : Int} (hx : ev E x = some (.int k m)) (hy : ev E y = some (.int k n)) : Qt P S E ⟨dst, .binOp .xor t x y t', ty, pos, af, g⟩ (.int k (k.wrap (BitVec.ofInt k.bits m ^^^ BitVec.ofInt k.bits n).toNat)) := fun a ha w _ => by
  simp [execOp, ha.ev hx, ha.ev hy, eqGuard, binOp, Op.intBits]
theorem Qt.andNot {x y : Operand} {t t' : Nat} {k : IntKind} {m n : Int} (hx : ev E x = some (.int k m)) (hy : ev E y = some (.int k n)) : Qt P S E ⟨dst, .binOp .andNot t x y t', ty, pos, af, g⟩ (.int k (k.wrap (BitVec.ofInt k.bits m &&& ~~~ BitVec.ofInt k.bits n).toNat)) := fun a ha w _ => by
  simp [execOp, ha.ev hx, ha.ev hy, eqGuard, binOp, Op.intBits]
theorem Qt.shl {x y : Operand} {t t' : Nat} {k k' : IntKind} {m n : Int} (hx : ev E x = some (.int k m)) (hy : ev E y = some (.int k' n)) (hn : 0 ≤ n) : Qt P S E ⟨dst, .binOp .shl t x y t', ty, pos, af, g⟩ (.int k (k.wrap (m * 2 ^ min n.toNat k.bits))) := fun a ha w _ => by
  have : ¬ n < 0 := by omega
  simp [execOp, ha.ev hx, ha.ev hy, eqGuard, binOp, Op.shift, this]
theorem Qt.shr {x y : Operand} {t t' : Nat} {k k' : IntKind} {m n : Int} (hx : ev E x = some (.int k m)) (hy : ev E y = some (.int k' n)) (hn : 0 ≤ n) : Qt P S E ⟨dst, .binOp .shr t x y t', ty, pos, af, g⟩ (.int k (m.fdiv (2 ^ min n.toNat k.bits))) := fun a ha w _ => by
  have : ¬ n < 0 := by omega
  simp [execOp, ha.ev hx, ha.ev hy, eqGuard, binOp, Op.shift, this]
theorem Qt.lss {x y : Operand} {t t' : Nat} {k : IntKind} {m n : Int} (hx : ev E x = some (.int k m)) (hy : ev E y = some (.int k n)) : Qt P S E ⟨dst, .binOp .lss t x y t', ty, pos, af, g⟩ (.bool (decide (m < n))) := fun a ha w _ => by
  simp [execOp, ha.ev hx, ha.ev hy, eqGuard, binOp, Op.intCmp]
theorem Qt.leq {x y : Operand} {t t' : Nat} {k : IntKind} {m n : Int} (hx : ev E x = some (.int k m)) (hy : ev E y = some (.int k n)) : Qt P S E ⟨dst, .binOp .leq t x y t', ty, pos, af, g⟩ (.bool (decide (m ≤ n))) := fun a ha w _ => by
  simp [execOp, ha.ev hx, ha.ev hy, eqGuard, binOp, Op.intCmp]
theorem Qt.gtr {x y : Operand} {t t' : Nat} {k : IntKind} {m n : Int} (hx : ev E x = some (.int k m)) (hy : ev E y = some (.int k n)) : Qt P S E ⟨dst, .binOp .gtr t x y t', ty, pos, af, g⟩ (.bool (decide (m > n))) := fun a ha w _ => by
  simp [execOp, ha.ev hx, ha.ev hy, eqGuard, binOp, Op.intCmp]
theorem Qt.geq {x y : Operand} {t t' : Nat} {k : IntKind} {m n : Int} (hx : ev E x = some (.int k m)) (hy : ev E y = some (.int k n)) : Qt P S E ⟨dst, .binOp .geq t x y t', ty, pos, af, g⟩ (.bool (decide (m ≥ n))) := fun a ha w _ => by
  simp [execOp, ha.ev hx, ha.ev hy, eqGuard, binOp, Op.intCmp]
theorem Qt.eql {x y : Operand} {t t' : Nat} {k : IntKind} {m n : Int} (hx : ev E x = some (.int k m)) (hy : ev E y = some (.int k n)) : Qt P S E ⟨dst, .binOp .eql t x y t', ty, pos, af, g⟩ (.bool (decide (m = n))) := fun a ha w _ => by
  simp [execOp, ha.ev hx, ha.ev hy, eqGuard, binOp, Op.intCmp]; rfl
theorem Qt.neq {x y : Operand} {t t' : Nat} {k : IntKind} {m n : Int} (hx : ev E x = some (.int k m)) (hy : ev E y = some (.int k n)) : Qt P S E ⟨dst, .binOp .neq t x y t', ty, pos, af, g⟩ (.bool (decide (m ≠ n))) := fun a ha w _ => by
  simp [execOp, ha.ev hx, ha.ev hy, eqGuard, binOp, Op.intCmp]
  by_cases h : m = n <;> simp [h]
theorem Qt.eqlB {x y : Operand} {t t' : Nat} {n : Nat} {b c : Bool} [hT : TI P t .bool n] (hx : ev E x = some (.bool b)) (hy : ev E y = some (.bool c)) : Qt P S E ⟨dst, .binOp .eql t x y t', ty, pos, af, g⟩ (.bool (decide (b = c))) := fun a ha w _ => by
  simp [execOp, ha.ev hx, ha.ev hy, binOp, eqGuard, equal_bool hT]; cases b <;> cases c <;> rfl
theorem Qt.neqB {x y : Operand} {t t' : Nat} {n : Nat} {b c : Bool} [hT : TI P t .bool n] (hx : ev E x = some (.bool b)) (hy : ev E y = some (.bool c)) : Qt P S E ⟨dst, .binOp .neq t x y t', ty, pos, af, g⟩ (.bool (decide (b ≠ c))) := fun a ha w _ => by
  simp [execOp, ha.ev hx, ha.ev hy, binOp, eqGuard, equal_bool hT]; cases b <;> cases c <;> rfl
theorem Qt.eqlN {x y : Operand} {t t' e n : Nat} {p : Option Addr} [hT : TI P t (.pointer e) n] (hx : ev E x = some (.pointer p)) (hy : ev E y = some (.pointer none)) : Qt P S E ⟨dst, .binOp .eql t x y t', ty, pos, af, g⟩ (.bool p.isNone) := fun a ha w _ => by
  simp [execOp, ha.ev hx, ha.ev hy, binOp, eqGuard, equal_ptr hT]
theorem Qt.neqN {x y : Operand} {t t' e n : Nat} {p : Option Addr} [hT : TI P t (.pointer e) n] (hx : ev E x = some (.pointer p)) (hy : ev E y = some (.pointer none)) : Qt P S E ⟨dst, .binOp .neq t x y t', ty, pos, af, g⟩ (.bool p.isSome) := fun a ha w _ => by
  simp [execOp, ha.ev hx, ha.ev hy, binOp, eqGuard, equal_ptr hT]
theorem Qt.eqlS {x y : Operand} {t t' e n : Nat} {p : Option Addr} {l c l' c' : Nat} [hT : TI P t (.slice e) n] (hx : ev E x = some (.slice p l c)) (hy : ev E y = some (.slice none l' c')) : Qt P S E ⟨dst, .binOp .eql t x y t', ty, pos, af, g⟩ (.bool p.isNone) := fun a ha w _ => by
  simp [execOp, ha.ev hx, ha.ev hy, binOp, eqGuard, equal_sl hT]
theorem Qt.cvt {x : Operand} {s d ns nd : Nat} {k k' : IntKind} {m : Int} [hs : TI P s (.int k') ns] [hd : TI P d (.int k) nd] (hx : ev E x = some (.int k' m)) : Qt P S E ⟨dst, .convert s d x, ty, pos, af, g⟩ (.int k (k.wrap m)) := fun a ha w _ => by
  simp [execOp, ha.ev hx, convert, run_underlying hs, run_underlying hd, Conv.intToInt]

theorem Qt.fld {s : Nat} {x : Operand} {f off n b o : Nat} {ag : Bool} (hx : ev E x = some (.pointer (some ⟨b, o, none⟩))) [hd : FD P s f off ag n] (hn : Nat.beq n 0 = false := by rfl) :
    Qt P S E ⟨dst, .fieldAddr s x f, ty, pos, af, g⟩ (.pointer (some ⟨b, o + off, none⟩)) := fun a ha w _ => by
  obtain ⟨fs, fd, df, h1, h2, rfl, h4, h5, h6⟩ := hd.fd
  have hn' : n ≠ 0 := by intro e; subst e; simp at hn
  have hu : (underlying s).run P w = .ok (.struct fs) w := by simp [underlying, program, Sem.run, h1, pure, bind, Sem.bind]
  simp [execOp, ha.ev hx, Instr.fieldAt, hu, h2, Instr.sureAddr, fieldPlace, run_sizeOf (P := P) ⟨h4, h6⟩, hn', Addr.add]

theorem Qt.ixA {t : Nat} {x i : Operand} {len e n ne b o : Nat} {k : IntKind} {m : Int} {de : TypeDesc} [ht : TI P t (.array len e) n] [he : TI P e de ne] (hx : ev E x = some (.pointer (some ⟨b, o, none⟩))) (hi : ev E i = some (.int k m)) (h0 : 0 ≤ m) (h1 : m < len) :
    Qt P S E ⟨dst, .indexAddr t x i, ty, pos, af, g⟩ (.pointer (some ⟨b, o + m.toNat * ne, none⟩)) := fun a ha w _ => by
  simp [execOp, ha.ev hx, ha.ev hi, Instr.indexAt, asIntOf, run_underlying ht, Instr.sureAddr, h0, h1, run_sizeOf he, Addr.add]
  try (by_cases h : m.toNat = 0 ∨ ne = 0
       · rcases h with h | h <;> simp [h]
       · have h' : ¬ (m ≤ 0 ∨ ne = 0) := by omega
         simp [h'])
theorem Qt.ixS {t : Nat} {x i : Operand} {len cap e n ne b o : Nat} {k : IntKind} {m : Int} {de : TypeDesc} [ht : TI P t (.slice e) n] [he : TI P e de ne] (hx : ev E x = some (.slice (some ⟨b, o, none⟩) len cap)) (hi : ev E i = some (.int k m)) (h0 : 0 ≤ m) (h1 : m < len) :
    Qt P S E ⟨dst, .indexAddr t x i, ty, pos, af, g⟩ (.pointer (some ⟨b, o + m.toNat * ne, none⟩)) := fun a ha w _ => by
  simp [execOp, ha.ev hx, ha.ev hi, Instr.indexAt, asIntOf, run_underlying ht, h0, h1, run_sizeOf he, Addr.add]
  try (by_cases h : m.toNat = 0 ∨ ne = 0
       · rcases h with h | h <;> simp [h]
       · have h' : ¬ (m ≤ 0 ∨ ne = 0) := by omega
         simp [h'])

theorem cell_of {w : World} {b off : Nat} {c : Array Value} {T : TypeId} {fz : Nat × Nat} (h : w.heap[b]? = some (.cells c T fz)) : w.cell? ⟨b, off, none⟩ = c[off]? := by
  simp [World.cell?, h]

theorem Qt.ld {t : Nat} {x : Operand} {b off n : Nat} {d : TypeDesc} {c : Array Value} {T : TypeId} {fz : Nat × Nat} {v : Value} [ht : TI P t d n] (hx : ev E x = some (.pointer (some ⟨b, off, none⟩)))
    (hw : ∀ w, S w → w.heap[b]? = some (.cells c T fz)) (hv : c.toList[off]? = some v) (hd : aggB d = false := by rfl) : Qt P S E ⟨dst, .load t x, ty, pos, af, g⟩ v := fun a ha w hS => by
  have hv : c[off]? = some v := by simpa using hv
  have hc : w.cell? ⟨b, off, none⟩ = some v := (cell_of (hw w hS)).trans hv
  simp [execOp, ha.ev hx, Instr.loadAt, Instr.sureAddr, loadVar, run_isAgg ht, hd, hc]

theorem run_loadCellsFrom {w : World} {b : Nat} {c : Array Value} {T : TypeId} {fz : Nat × Nat} (h : w.heap[b]? = some (.cells c T fz)) (off : Nat) : ∀ (n i : Nat) (acc : Array Value), off + i + n ≤ c.size →
    (loadCellsFrom ⟨b, off, none⟩ i n acc).run P w = .ok (acc ++ c.extract (off + i) (off + i + n)) w := by
  intro n
  induction n with
  | zero =>
    intro i acc _
    have : c.extract (off + i) (off + i) = #[] := by apply Array.ext'; simp
    simp [loadCellsFrom, this]
  | succ n ih =>
    intro i acc hle
    have hlt : off + i < c.size := by omega
    have hadd : (⟨b, off, none⟩ : Addr).add i = ⟨b, off + i, none⟩ := by
      unfold Addr.add
      by_cases h0 : i = 0 <;> simp [h0]
    have hc : w.cell? ⟨b, off + i, none⟩ = some c[off + i] := by rw [cell_of h]; simp [hlt]
    simp only [loadCellsFrom, Sem.run_bind, hadd, run_load, hc, Result.andThen_ok]
    rw [ih (i + 1) _ (by omega)]
    congr 1
    apply Array.ext'
    simp only [Array.toList_append, Array.toList_push, Array.toList_extract, List.append_assoc, List.extract_eq_take_drop]
    congr 1
    rw [show off + (i + 1) + n - (off + (i + 1)) = n by omega, show off + i + (n + 1) - (off + i) = n + 1 by omega, show off + (i + 1) = off + i + 1 by omega]
    rw [List.singleton_append]
    have hd : List.drop (off + i) c.toList = c[off + i] :: List.drop (off + i + 1) c.toList := by
      rw [List.drop_eq_getElem_cons (by simpa using hlt)]; simp
    rw [hd, List.take_succ_cons]

theorem Qt.ldA {t : Nat} {x : Operand} {b off n : Nat} {d : TypeDesc} {c : Array Value} {T : TypeId} {fz : Nat × Nat} {cs : Array Value} [ht : TI P t d n] (hx : ev E x = some (.pointer (some ⟨b, off, none⟩)))
    (hw : ∀ w, S w → w.heap[b]? = some (.cells c T fz)) (hv : c.extract off (off + n) = cs) (hle : off + n ≤ c.size) (hd : aggB d = true := by rfl) : Qt P S E ⟨dst, .load t x, ty, pos, af, g⟩ (.agg cs) := fun a ha w hS => by
  have := run_loadCellsFrom (P := P) (hw w hS) off n 0 #[] (by omega)
  simp only [Nat.add_zero, Array.empty_append, hv] at this
  simp [execOp, ha.ev hx, Instr.loadAt, Instr.sureAddr, loadVar, run_isAgg ht, hd, run_sizeOf ht, loadCells, this]

theorem Qt.fdA {t : Nat} {x : Operand} {f off n : Nat} {cs : Array Value} {v : Value} (hx : ev E x = some (.agg cs)) [hd : FD P t f off false n] (hv : cs.toList[off]? = some v) :
    Qt P S E ⟨dst, .field t x f, ty, pos, af, g⟩ v := fun a ha w _ => by
  have hv : cs[off]? = some v := by simpa using hv
  obtain ⟨fs, fd, df, h1, h2, rfl, h4, h5, h6⟩ := hd.fd
  have hu : (underlying t).run P w = .ok (.struct fs) w := by simp [underlying, program, Sem.run, h1, pure, bind, Sem.bind]
  simp [execOp, ha.ev hx, Instr.field, hu, h2, asAgg, part, run_isAgg (P := P) ⟨h4, h6⟩, h5, hv]
theorem Qt.fdB {t : Nat} {x : Operand} {f off n : Nat} {cs : Array Value} {v : Array Value} (hx : ev E x = some (.agg cs)) [hd : FD P t f off true n] (hv : cs.extract off (off + n) = v) :
    Qt P S E ⟨dst, .field t x f, ty, pos, af, g⟩ (.agg v) := fun a ha w _ => by
  obtain ⟨fs, fd, df, h1, h2, rfl, h4, h5, h6⟩ := hd.fd
  have hu : (underlying t).run P w = .ok (.struct fs) w := by simp [underlying, program, Sem.run, h1, pure, bind, Sem.bind]
  simp [execOp, ha.ev hx, Instr.field, hu, h2, asAgg, part, run_isAgg (P := P) ⟨h4, h6⟩, h5, hv, run_sizeOf (P := P) ⟨h4, h6⟩]
theorem Qt.ixV {t : Nat} {x i : Operand} {len e n ne : Nat} {k : IntKind} {m : Int} {de : TypeDesc} {cs : Array Value} {v : Value} [ht : TI P t (.array len e) n] [he : TI P e de ne] (hx : ev E x = some (.agg cs)) (hi : ev E i = some (.int k m)) (h0 : 0 ≤ m) (h1 : m < len) (hv : cs.toList[m.toNat * ne]? = some v) (hn : aggB de = false := by rfl) :
    Qt P S E ⟨dst, .index t x i, ty, pos, af, g⟩ v := fun a ha w _ => by
  have hv : cs[m.toNat * ne]? = some v := by simpa using hv
  simp [execOp, ha.ev hx, ha.ev hi, Instr.index, asIntOf, run_underlying ht, h0, h1, run_sizeOf he, part, run_isAgg he, hn, hv]

theorem Qt.lenS {x : Operand} {t n e l c : Nat} {p : Option Addr} [ht : TI P t (.slice e) n] (hx : ev E x = some (.slice p l c)) :
    Qt P S E ⟨dst, .call ⟨.builtin .len, #[x], #[t]⟩, ty, pos, af, g⟩ (.int .i64 l) := fun a ha w _ => by
  simp [execOp, resolve, invoke, builtin, Builtin.len_, ha.ev hx, run_underlying ht, goInt]

theorem Qt.slHi {x i : Operand} {t n e l c : Nat} {p : Option Addr} {k : IntKind} {m : Int} {ne : Nat} {de : TypeDesc} [ht : TI P t (.slice e) n] [he : TI P e de ne] (hx : ev E x = some (.slice p l c)) (hi : ev E i = some (.int k m)) (h0 : 0 ≤ m) (h1 : m ≤ c) :
    Qt P S E ⟨dst, .slice t x none (some i) none, ty, pos, af, g⟩ (.slice p m.toNat c) := fun a ha w _ => by
  simp [execOp, ha.ev hx, ha.ev hi, Instr.sliceAt, Instr.slice, run_underlying ht, Instr.sliceBounds, Instr.sliceBound, asIntOf, h0, h1, run_sizeOf he]
  by_cases hc : c = 0
  · simp [hc]
  · cases p <;> simp [hc, Addr.add]

theorem Qt.slLo {x i : Operand} {t n e l c b o : Nat} {k : IntKind} {m : Int} {ne : Nat} {de : TypeDesc} [ht : TI P t (.slice e) n] [he : TI P e de ne] (hx : ev E x = some (.slice (some ⟨b, o, none⟩) l c)) (hi : ev E i = some (.int k m)) (h0 : 0 ≤ m) (h1 : m ≤ l) :
    Qt P S E ⟨dst, .slice t x (some i) none none, ty, pos, af, g⟩ (.slice (some ⟨b, if c = m.toNat then o else o + m.toNat * ne, none⟩) (l - m.toNat) (c - m.toNat)) := fun a ha w _ => by
  simp [execOp, ha.ev hx, ha.ev hi, Instr.sliceAt, Instr.slice, run_underlying ht, Instr.sliceBounds, Instr.sliceBound, asIntOf, h0, h1, run_sizeOf he]
  by_cases hc : c = m.toNat
  · simp [hc]
  · simp [hc, Addr.add]

def inK : IntKind → Int → Prop
  | .i8, n => -128 ≤ n ∧ n ≤ 127
  | .i16, n => -32768 ≤ n ∧ n ≤ 32767
  | .i32, n => -2147483648 ≤ n ∧ n ≤ 2147483647
  | .i64, n => -9223372036854775808 ≤ n ∧ n ≤ 9223372036854775807
  | .u8, n => 0 ≤ n ∧ n ≤ 255
  | .u16, n => 0 ≤ n ∧ n ≤ 65535
  | .u32, n => 0 ≤ n ∧ n ≤ 4294967295
  | .u64, n => 0 ≤ n ∧ n ≤ 18446744073709551615
theorem wrap_in {k : IntKind} {n : Int} (h : inK k n) : k.wrap n = n := by
  cases k
  · exact IntWalk.i8_in n h
  · exact IntWalk.i16_in n h
  · exact IntWalk.i32_in n h
  · exact IntWalk.i64_in n h
  · exact IntWalk.u8_in n h
  · exact IntWalk.u16_in n h
  · exact IntWalk.u32_in n h
  · exact IntWalk.u64_in n h
theorem inK_le {k : IntKind} {m n : Int} (h : inK k m) (h0 : 0 ≤ n) (h1 : n ≤ m) : inK k n := by
  cases k <;> simp only [inK] at h ⊢ <;> omega
theorem Qt.addI {x y : Operand} {t t' : Nat} {k : IntKind} {m n : Int} (hx : ev E x = some (.int k m)) (hy : ev E y = some (.int k n)) (h : inK k (m + n)) : Qt P S E ⟨dst, .binOp .add t x y t', ty, pos, af, g⟩ (.int k (m + n)) := by
  have := Qt.add (P := P) (S := S) (dst := dst) (ty := ty) (pos := pos) (af := af) (g := g) (t := t) (t' := t') hx hy
  rwa [wrap_in h] at this
theorem Qt.subI {x y : Operand} {t t' : Nat} {k : IntKind} {m n : Int} (hx : ev E x = some (.int k m)) (hy : ev E y = some (.int k n)) (h : inK k (m - n)) : Qt P S E ⟨dst, .binOp .sub t x y t', ty, pos, af, g⟩ (.int k (m - n)) := by
  have := Qt.sub (P := P) (S := S) (dst := dst) (ty := ty) (pos := pos) (af := af) (g := g) (t := t) (t' := t') hx hy
  rwa [wrap_in h] at this
theorem Qt.mulI {x y : Operand} {t t' : Nat} {k : IntKind} {m n : Int} (hx : ev E x = some (.int k m)) (hy : ev E y = some (.int k n)) (h : inK k (m * n)) : Qt P S E ⟨dst, .binOp .mul t x y t', ty, pos, af, g⟩ (.int k (m * n)) := by
  have := Qt.mul (P := P) (S := S) (dst := dst) (ty := ty) (pos := pos) (af := af) (g := g) (t := t) (t' := t') hx hy
  rwa [wrap_in h] at this
theorem Qt.quoI {x y : Operand} {t t' : Nat} {k : IntKind} {m n : Int} (hx : ev E x = some (.int k m)) (hy : ev E y = some (.int k n)) (h : inK k m) (h0 : 0 ≤ m ∧ 1 ≤ n) : Qt P S E ⟨dst, .binOp .quo t x y t', ty, pos, af, g⟩ (.int k (m / n)) := by
  have := Qt.quo (P := P) (S := S) (dst := dst) (ty := ty) (pos := pos) (af := af) (g := g) (t := t) (t' := t') hx hy (by omega)
  obtain ⟨h1, h2⟩ := IntWalk.tdiv_le m n h0.1 h0.2
  rw [Int.tdiv_eq_ediv_of_nonneg h0.1] at this
  rwa [wrap_in (inK_le h h1 h2)] at this
theorem Qt.remI {x y : Operand} {t t' : Nat} {k : IntKind} {m n : Int} (hx : ev E x = some (.int k m)) (hy : ev E y = some (.int k n)) (h0 : 0 ≤ m ∧ 1 ≤ n) : Qt P S E ⟨dst, .binOp .rem t x y t', ty, pos, af, g⟩ (.int k (m % n)) := by
  have := Qt.rem (P := P) (S := S) (dst := dst) (ty := ty) (pos := pos) (af := af) (g := g) (t := t) (t' := t') hx hy (by omega)
  rwa [Int.tmod_eq_emod_of_nonneg h0.1] at this
theorem Qt.cvtI {x : Operand} {s d ns nd : Nat} {k k' : IntKind} {m : Int} [hs : TI P s (.int k') ns] [hd : TI P d (.int k) nd] (hx : ev E x = some (.int k' m)) (h : inK k m) : Qt P S E ⟨dst, .convert s d x, ty, pos, af, g⟩ (.int k m) := by
  have := Qt.cvt (P := P) (S := S) (E := E) (dst := dst) (ty := ty) (pos := pos) (af := af) (g := g) (s := s) (d := d) hx
  rwa [wrap_in h] at this
theorem Qt.max {x y : Operand} {k : IntKind} {m n : Int} {rt : Array TypeId} (hx : ev E x = some (.int k m)) (hy : ev E y = some (.int k n)) : Qt P S E ⟨dst, .call ⟨.builtin .max, #[x, y], rt⟩, ty, pos, af, g⟩ (.int k (Max.max m n)) := fun a ha w _ => by
  have e : (if n > m then n else m) = Max.max m n := by omega
  simp [execOp, resolve, invoke, builtin, Builtin.max_, Builtin.max2, ha.ev hx, ha.ev hy, e]
theorem Qt.min {x y : Operand} {k : IntKind} {m n : Int} {rt : Array TypeId} (hx : ev E x = some (.int k m)) (hy : ev E y = some (.int k n)) : Qt P S E ⟨dst, .call ⟨.builtin .min, #[x, y], rt⟩, ty, pos, af, g⟩ (.int k (Min.min m n)) := fun a ha w _ => by
  have e : (if n < m then n else m) = Min.min m n := by omega
  simp [execOp, resolve, invoke, builtin, Builtin.min_, Builtin.min2, ha.ev hx, ha.ev hy, e]

@[simp] theorem cells_int (k : IntKind) (n : Int) : (Value.int k n).cells.toList = [.int k n] := rfl
@[simp] theorem cells_bool (b : Bool) : (Value.bool b).cells.toList = [.bool b] := rfl
@[simp] theorem cells_ptr (p : Option Addr) : (Value.pointer p).cells.toList = [.pointer p] := rfl
@[simp] theorem cells_slice (p : Option Addr) (l c : Nat) : (Value.slice p l c).cells.toList = [.slice p l c] := rfl
@[simp] theorem cells_map (p : Option Nat) : (Value.map p).cells.toList = [.map p] := rfl
@[simp] theorem cells_func (f : Fn) (x y : Array Value) : (Value.func f x y).cells.toList = [.func f x y] := rfl
@[simp] theorem cells_agg (x : Array Value) : (Value.agg x).cells.toList = x.toList := rfl
@[simp] theorem cells_int' (k : IntKind) (n : Int) : (Value.int k n).cells = #[.int k n] := rfl
@[simp] theorem cells_bool' (b : Bool) : (Value.bool b).cells = #[.bool b] := rfl
@[simp] theorem cells_ptr' (p : Option Addr) : (Value.pointer p).cells = #[.pointer p] := rfl
@[simp] theorem cells_slice' (p : Option Addr) (l c : Nat) : (Value.slice p l c).cells = #[.slice p l c] := rfl
@[simp] theorem cells_map' (p : Option Nat) : (Value.map p).cells = #[.map p] := rfl
@[simp] theorem cells_func' (f : Fn) (x y : Array Value) : (Value.func f x y).cells = #[.func f x y] := rfl
@[simp] theorem cells_agg' (x : Array Value) : (Value.agg x).cells = x := rfl
end
end Go.Gx

/- Operations with an effect, told for memory in pieces: stores, new blocks, made slices, append, calls; entering and leaving a function. No condition; nothing of any program stands here. -/
namespace Go.Gx
open Go
variable {oo : World}

/-- Cells written from a place on. -/
def wr (c : Array Value) (off : Nat) : List Value → Array Value
  | [] => c
  | v :: vs => wr (c.setIfInBounds off v) (off + 1) vs

theorem wr_size (vs : List Value) : ∀ (c : Array Value) (off : Nat), (wr c off vs).size = c.size := by
  induction vs with
  | nil => intro c off; rfl
  | cons v vs ih => intro c off; simp [wr, ih]

theorem wr_get (vs : List Value) : ∀ (c : Array Value) (off i : Nat), off + vs.length ≤ c.size → (wr c off vs)[i]? = if off ≤ i ∧ i < off + vs.length then vs[i - off]? else c[i]? := by
  induction vs with
  | nil => intro c off i _; simp [wr]; intro h1 h2; omega
  | cons v vs ih =>
    intro c off i hle
    simp only [List.length_cons] at hle
    simp only [wr]
    rw [ih _ _ _ (by simp; omega)]
    by_cases h1 : off + 1 ≤ i ∧ i < off + 1 + vs.length
    · rw [if_pos h1, if_pos (by simp only [List.length_cons]; omega)]
      rw [show i - off = (i - (off + 1)) + 1 by omega]; simp
    · rw [if_neg h1]
      by_cases h2 : i = off
      · subst h2
        rw [if_pos (by simp only [List.length_cons]; omega)]
        rw [Array.getElem?_setIfInBounds_self_of_lt (by omega)]
        simp
      · rw [if_neg (by simp only [List.length_cons]; omega)]
        rw [Array.getElem?_setIfInBounds_ne (Ne.symm h2)]

def Value.plain : Value → Bool
  | .agg _ | .tuple _ => false
  | _ => true

theorem heap_setCell {w : World} {b off : Nat} {c : Array Value} {T : TypeId} {fz : Nat × Nat} (h : w.heap[b]? = some (.cells c T fz)) (v : Value) :
    (w.setCell ⟨b, off, none⟩ v).heap[b]? = some (.cells (c.setIfInBounds off v) T fz) ∧ ∀ b', b' ≠ b → (w.setCell ⟨b, off, none⟩ v).heap[b']? = w.heap[b']? := by
  constructor
  · simp [World.setCell, Array.getElem?_modify, h]
  · intro b' hne
    simp [World.setCell, Array.getElem?_modify, Ne.symm hne]

theorem run_store {P : Program} {w : World} {b off : Nat} {c : Array Value} {T : TypeId} (h : w.heap[b]? = some (.cells c T (0, 0))) (hlt : off < c.size) (v : Value) (hp : Value.plain v = true) :
    (store ⟨b, off, none⟩ v).run P w = .ok () (w.setCell ⟨b, off, none⟩ v) := by
  have hc : w.cell? ⟨b, off, none⟩ = some c[off] := by rw [cell_of h]; simp [hlt]
  have hf : w.frozen? ⟨b, off, none⟩ = false := by simp [World.frozen?, h]
  cases v <;> simp [Value.plain] at hp <;> simp [store, Sem.run, hc, hf]

theorem run_storeCells {P : Program} {b : Nat} {T : TypeId} (off : Nat) (vs : List Value) : ∀ (i : Nat) (c : Array Value) (w : World), w.heap[b]? = some (.cells c T (0, 0)) → off + i + vs.length ≤ c.size → vs.all Value.plain = true →
    ∃ w', (storeCells ⟨b, off, none⟩ vs i).run P w = .ok () w' ∧ w'.heap[b]? = some (.cells (wr c (off + i) vs) T (0, 0)) ∧ (∀ b', b' ≠ b → w'.heap[b']? = w.heap[b']?) ∧ Outs w w' := by
  induction vs with
  | nil => intro i c w h _ _; exact ⟨w, by simp [storeCells], h, fun _ _ => rfl, rfl, rfl, rfl⟩
  | cons v vs ih =>
    intro i c w h hle hp
    simp only [List.length_cons] at hle
    simp only [List.all_cons, Bool.and_eq_true] at hp
    have hadd : (⟨b, off, none⟩ : Addr).add i = ⟨b, off + i, none⟩ := by
      unfold Addr.add
      by_cases h0 : i = 0 <;> simp [h0]
    obtain ⟨h1, h2⟩ := heap_setCell (off := off + i) h v
    obtain ⟨w', hr, hb, hne, ho⟩ := ih (i + 1) _ _ h1 (by simp; omega) hp.2
    refine ⟨w', ?_, ?_, fun b' hb' => (hne b' hb').trans (h2 b' hb'), Outs.via ⟨rfl, rfl, rfl⟩ ho⟩
    · simp only [storeCells, Sem.run_bind, hadd, run_store h (show off + i < c.size by omega) v hp.1, Result.andThen_ok]
      exact hr
    · rw [hb]; rfl

section
variable {P : Program} {N : Nat} {D : List Deferred} {E : Env} {w : World} {dst : Option Nat} {ty : TypeId} {pos : String} {af : Array Edge} {g : Option (Nat × Bool)} {L : List HP}

theorem Ef.of_run {o : Oper} {R : Value → World → Prop} (h : ∀ a : Act, Knows a E → (∃ v w', (execOp a.eval o).run P w = .ok (.value v) w' ∧ R v w') ∨ (∃ w', (execOp a.eval o).run P w = .ok .skip w' ∧ R undef w')) : Ef P N D E w o R := fun ρ a ha K Q hK => by
  rcases h a ha.knows with ⟨v, w', hr, hR⟩ | ⟨w', hr, hR⟩
  · exact wpIn_value hr (hK v w' hR)
  · exact wpIn_skipV hr (hK undef w' hR)

/-- A store of whatever size. -/
theorem Ef.st {t : Nat} {x y : Operand} {b off n : Nat} {d : TypeDesc} {c : Array Value} {T : TypeId} {v : Value} [ht : TI P t d n] (hS : Sat oo w L) (k' : Nat) (hx : ev E x = some (.pointer (some ⟨b, off, none⟩))) (hk : L[k']? = some (pt b (.cells c T (0, 0)))) (hy : ev E y = some v)
    (hn : v.cells.toList.length = n := by rfl) (hp : v.cells.toList.all Value.plain = true := by rfl) (hle : off + n ≤ c.size) :
    Ef P N D E w ⟨dst, .store t x y, ty, pos, af, g⟩ (fun _ w' => Sat oo w' (L.set k' (pt b (.cells (wr c off v.cells.toList) T (0, 0))))) := Ef.of_run fun a ha => by
  refine .inr ?_
  obtain ⟨w', hr, hb, hne, ho⟩ := run_storeCells (P := P) off v.cells.toList 0 c w (hS.get k' hk) (by omega) hp
  refine ⟨w', ?_, hS.put k' hk _ hb hne ho⟩
  have hsz : v.cells.size = n := by simpa using hn
  simp [execOp, ha.ev hx, ha.ev hy, Instr.storeAt, Instr.sureAddr, storeVar, run_sizeOf ht, hsz, hr]

theorem run_newRow {t : Nat} {cs : Array Value} (w : World) : (newRow t cs).run P w = .ok ⟨w.heap.size, 0, none⟩ { w with heap := w.heap.push (.cells cs t (0, 0)) } := by
  simp [newRow, newObj, Sem.run]

theorem Ef.box {t : Nat} {x : Operand} {v : Value} (hS : Sat oo w L) (hx : ev E x = some v) :
    Ef P N D E w ⟨dst, .box t x, ty, pos, af, g⟩ (fun u w' => ∃ b, u = .pointer (some ⟨b, 0, none⟩) ∧ Sat oo w' (pt b (.cells v.cells t (0, 0)) :: L)) := Ef.of_run fun a ha => by
  refine .inl ⟨.pointer (some ⟨w.heap.size, 0, none⟩), w.alloc (.cells v.cells t), by simp [execOp, Instr.box, newVar, run_newRow, ha.ev hx], w.heap.size, rfl, hS.new _ rfl⟩

theorem Ef.alloc {t : Nat} {z : Value} (hS : Sat oo w L) [hz : TZ P t z] :
    Ef P N D E w ⟨dst, .alloc t, ty, pos, af, g⟩ (fun u w' => ∃ b, u = .pointer (some ⟨b, 0, none⟩) ∧ Sat oo w' (pt b (.cells z.cells t (0, 0)) :: L)) := Ef.of_run fun a ha => by
  refine .inl ⟨.pointer (some ⟨w.heap.size, 0, none⟩), w.alloc (.cells z.cells t), by simp [execOp, Instr.alloc, newVar, run_newRow, run_zeroValue hz], w.heap.size, rfl, hS.new _ rfl⟩

/-- A call of a named function by its contract. -/
theorem Ef.call {f : FuncId} {x : Operand} {args : Array Operand} {at' : Array TypeId} {vs : Array Value} {pre : List HP} {post : Value → List HP → Prop} (hS : Sat oo w L) (hc : Ct P f vs pre post)
    (hx : ev E x = some (.func (.func f) #[] #[])) (hvs : args.toList.map (ev E) = vs.toList.map some) (hcall : ∀ (args : Array Value) (w : World), (callFunc f args).run P w = .ok (.enter f args) w)
    (s t : List Nat) {rest : List HP} (hn : (s ++ t).Nodup) (hs : selL L s = some pre) (ht : selL L t = some rest) :
    Ef P N D E w ⟨dst, .call ⟨.value x, args, at'⟩, ty, pos, af, g⟩ (fun v w' => ∃ ps, post v ps ∧ Sat oo w' (ps ++ rest)) := fun ρ a ha K Q hK => by
  have hargs : args.map a.eval = vs := by
    apply Array.ext'
    simp only [Array.toList_map]
    apply List.ext_getElem?
    intro i
    have h1 : (args.toList.map (ev E))[i]? = (vs.toList.map some)[i]? := by rw [hvs]
    simp only [List.getElem?_map] at h1 ⊢
    cases hi : args.toList[i]? with
    | none =>
      rw [hi] at h1
      simp at h1
      cases hj : vs.toList[i]? with
      | none => rfl
      | some u => simp only [Array.getElem?_toList] at hj; rw [hj] at h1; simp at h1
    | some y =>
      rw [hi] at h1
      simp only [Option.map_some] at h1
      cases hj : vs.toList[i]? with
      | none => rw [hj] at h1; simp at h1
      | some u =>
        rw [hj] at h1
        simp only [Option.map_some, Option.some.injEq] at h1
        simp [ha.knows.ev h1]
  have hrun : (execOp a.eval ⟨dst, .call ⟨.value x, args, at'⟩, ty, pos, af, g⟩).run P w = .ok (.enter f vs) w := by
    simp [execOp, resolve, ha.knows.ev hx, hargs, Deferred.ofValue, invoke, hcall]
  refine ⟨fun _ _ => trivial, ?_⟩
  rw [Oper.semAt_eq _ _ _ (fun c hc => by cases hc), hrun, Oper.uponIn_enter]
  refine ⟨fun h => (by cases h), ?_⟩
  refine CallsIn.mono (callsIn_wide.2 (hc.call hS s t hn (selL_map _ _ hs) (selL_map _ _ ht))) ?_
  rintro e w' ⟨v, ps, rfl, hp, hs'⟩
  exact hK v w' ⟨ps, hp, hs'⟩

/-! ### entering and leaving -/
def initE (i : Nat) : List Value → Env
  | [] => []
  | v :: vs => (i, v) :: initE (i + 1) vs

theorem initE_look (vs : List Value) : ∀ (i t : Nat) (v : Value), look (initE i vs) t = some v → i ≤ t ∧ vs[t - i]? = some v := by
  induction vs with
  | nil => intro i t v h; cases h
  | cons u vs ih =>
    intro i t v h
    simp only [initE, look] at h
    cases hb : Nat.beq i t with
    | true =>
      have e : i = t := Nat.eq_of_beq_eq_true hb
      subst e
      simp only [hb] at h
      exact ⟨Nat.le_refl _, by simpa using h⟩
    | false =>
      simp only [hb] at h
      obtain ⟨h1, h2⟩ := ih (i + 1) t v h
      refine ⟨by omega, ?_⟩
      rw [show t - i = (t - (i + 1)) + 1 by omega]
      simpa using h2

/-- The post of a contract as a relation on endings. -/
def endR (oo : World) (post : Value → List HP → Prop) (R : HP) : Ending → World → Prop := fun e w' => ∃ v ps, e = .returned v ∧ post v ps ∧ Sat oo w' (ps ++ [R])

theorem Ct.enter {f : FuncId} {fn : Func} {c : Code} {args : Array Value} {pre : List HP} {post : Value → List HP → Prop} (hf : P.funcs[f]? = some fn) (hb : fn.body = some c) (hN : args.size ≤ fn.ntmps)
    (h : ∀ oo w R, Sat oo w (pre ++ [R]) → RC none P fn.ntmps [] (bodyP P fn (endR oo post R)) c (initE 0 args.toList) w) : Ct P f args pre post := fun oo w R hS => by
  have hA : Agree fn.ntmps [] { tmps := args ++ Array.replicate (fn.ntmps - args.size) undef, defers := [] } (initE 0 args.toList) := by
    refine ⟨?_, rfl, ?_⟩
    · simp; omega
    · intro t v hv
      obtain ⟨_, h2⟩ := initE_look _ _ _ _ hv
      simp only [Nat.sub_zero] at h2
      have hlt : t < args.size := by
        rcases Nat.lt_or_ge t args.size with h | h
        · exact h
        · rw [List.getElem?_eq_none (by simpa using h)] at h2; cases h2
      have h3 : args[t]? = some v := by simpa using h2
      simp [Array.getElem?_append_left hlt, h3]
  exact (callsIn_wide (n := 0)).1 (callsIn_of_wp_marks (F := FW none) hf hb trivial (wpIn_mono (h oo w R hS _ hA) (fun e a w' hq => by cases e <;> first | exact hq | exact hq.elim)))

def resV (E : Env) : List ResultVar → Option (List Value)
  | [] => some []
  | .tmp t :: rs => match look E t, resV E rs with
    | some v, some vs => some (v :: vs)
    | _, _ => none
  | _ => none

theorem run_mapM_tmps {a : Act} {E : Env} (ha : Knows a E) (w : World) (F : ResultVar → Sem Value) (hF : ∀ t, F (.tmp t) = pure (a.tmps.getD t undef)) : ∀ (rs : List ResultVar) (vs : List Value), resV E rs = some vs →
    (rs.mapM F).run P w = .ok vs w := by
  intro rs
  induction rs with
  | nil => intro vs h; simp [resV] at h; subst h; simp
  | cons r rs ih =>
    intro vs h
    cases r with
    | cell b t => simp [resV] at h
    | tmp t =>
      simp only [resV] at h
      cases hl : look E t with
      | none => rw [hl] at h; simp at h
      | some v =>
        cases hr : resV E rs with
        | none => rw [hl, hr] at h; simp at h
        | some us =>
          rw [hl, hr] at h
          simp only [Option.some.injEq] at h
          subst h
          rw [List.mapM_cons, hF]
          have h1 := ha t v hl
          have h2 := ih us hr
          simp only [Sem.run_bind, Sem.run_pure, Result.andThen_ok, h2, h1]

def oneOf : List Value → Value
  | [v] => v
  | vs => .tuple vs.toArray

theorem run_results {fn : Func} {a : Act} {E : Env} (ha : Knows a E) {vs : List Value} (h : resV E fn.results.toList = some vs) (w : World) : (results fn a.tmps).run P w = .ok (oneOf vs) w := by
  unfold results
  rw [Array.mapM_eq_mapM_toList, Sem.run_bind, Sem.run_map, run_mapM_tmps (P := P) ha w _ (fun _ => rfl) _ _ h]
  simp only [Result.andThen_ok, Sem.run_pure]
  congr 1
  match vs with
  | [] => simp [oneOf]
  | [v] => simp [oneOf]
  | v :: u :: vs => simp [oneOf]

theorem RE.retB {fn : Func} {post : Value → List HP → Prop} {R : HP} {vs : List Value} {ps : List HP} (hr : resV E fn.results.toList = some vs) (hp : post (oneOf vs) ps) (hS : Sat oo w (ps ++ [R])) : RE N [] (bodyP P fn (endR oo post R)) .ret E w := fun a ha =>
by
  show LeavesInM _ _ _ _ _ _ a.defers _ _
  rw [ha.defers]
  exact ⟨_, run_results ha.knows hr w, _, _, rfl, hp, hS⟩
theorem RE.endB {fn : Func} {post : Value → List HP → Prop} {R : HP} {vs : List Value} {ps : List HP} (hr : resV E fn.results.toList = some vs) (hp : post (oneOf vs) ps) (hS : Sat oo w (ps ++ [R])) : RE N [] (bodyP P fn (endR oo post R)) .normal E w := fun a ha =>
by
  show LeavesInM _ _ _ _ _ _ a.defers _ _
  rw [ha.defers]
  exact ⟨_, run_results ha.knows hr w, _, _, rfl, hp, hS⟩

/-- A result that lies in a cell, of an array's or a struct's type. -/
theorem RE.retCell {fn : Func} {post : Value → List HP → Prop} {R : HP} {ps : List HP} {k t b off n r : Nat} {d : TypeDesc} {c cs : Array Value} {T : TypeId} [ht : TI P t d n] (hS0 : Sat oo w L) (hr : fn.results = #[.cell r t]) (hl : look E r = some (.pointer (some ⟨b, off, none⟩)))
    (hk : L[k]? = some (pt b (.cells c T (0, 0)))) (hv : c.extract off (off + n) = cs) (hle : off + n ≤ c.size) (hp : post (.agg cs) ps) (hS : Sat oo w (ps ++ [R])) (hd : aggB d = true := by rfl) : RE N [] (bodyP P fn (endR oo post R)) .ret E w := fun a ha => by
  show LeavesInM _ _ _ _ _ _ a.defers _ _
  rw [ha.defers]
  refine ⟨.agg cs, ?_, _, _, rfl, hp, hS⟩
  have h1 := run_loadCellsFrom (P := P) (hS0.get k hk) off n 0 #[] (by omega)
  simp only [Nat.add_zero, Array.empty_append, hv] at h1
  have h2 := ha.knows r _ hl
  simp only [Array.getD_eq_getD_getElem?] at h2
  simp [results, hr, h2, asAddr, loadVar, run_isAgg ht, hd, run_sizeOf ht, loadCells, h1]
end
end Go.Gx

/- Slices that a function owns: building, making, appending, reading and writing their rows; building structs. No condition; nothing of any program stands here. -/
namespace Go.Gx
open Go
variable {oo : World}

/-- The slice v of n elements, of sz cells each, owns the cells cs (spare ones behind them). -/
def own (v : Value) (T sz n : Nat) (cs : List Value) : HP := fun F =>
  (v = .slice none 0 0 ∧ n = 0 ∧ cs = [] ∧ F = []) ∨
  ∃ b cap c, v = .slice (some ⟨b, 0, none⟩) n cap ∧ F = [(b, .cells c T (0, 0))] ∧ c.size = cap * sz ∧ n ≤ cap ∧ cs.length = n * sz ∧ c.toList.take (n * sz) = cs

class TF (P : Program) (t : Nat) (pl : outParam (Array (Nat × Nat))) : Prop where
  pl : ∃ fs, P.underlying t = some (.struct fs) ∧ ∀ w, (fs.mapM (m := Sem) fun f => do pure (f.offset, ← sizeOf f.type)).run P w = .ok pl w

section
variable {P : Program} {N : Nat} {D : List Deferred} {S : World → Prop} {E : Env} {w : World} {dst : Option Nat} {ty : TypeId} {pos : String} {af : Array Edge} {g : Option (Nat × Bool)} {L : List HP}

def parts (E : Env) : List (Nat × Operand) → Option (List (Nat × Value))
  | [] => some []
  | (i, x) :: l => match ev E x, parts E l with
    | some v, some vs => some ((i, v) :: vs)
    | _, _ => none

theorem parts_map {a : Act} (ha : Knows a E) : ∀ (l : List (Nat × Operand)) (vs : List (Nat × Value)), parts E l = some vs → l.map (fun p => (p.1, a.eval p.2)) = vs := by
  intro l
  induction l with
  | nil => intro vs h; simp [parts] at h; subst h; rfl
  | cons p l ih =>
    obtain ⟨i, x⟩ := p
    intro vs h
    simp only [parts] at h
    cases hx : ev E x with
    | none => rw [hx] at h; simp at h
    | some v =>
      cases hl : parts E l with
      | none => rw [hx, hl] at h; simp at h
      | some us =>
        rw [hx, hl] at h
        simp only [Option.some.injEq] at h
        subst h
        simp [ha.ev hx, ih us hl]

theorem Qt.bld {t : Nat} {ps : Array (Nat × Operand)} {vs : List (Nat × Value)} {z : Value} {pl : Array (Nat × Nat)} {cs : Array Value} [hz : TZ P t z] [hp : TF P t pl] (hv : parts E ps.toList = some vs)
    (hc : Instr.fill (pl[·]?) z.cells vs = some cs) : Qt P S E ⟨dst, .build t ps, ty, pos, af, g⟩ (.agg cs) := fun a ha w _ => by
  obtain ⟨fs, hu, hpl⟩ := hp.pl
  have hund : (underlying t).run P w = .ok (.struct fs) w := by simp [underlying, program, Sem.run, hu, pure, bind, Sem.bind]
  have hmap : List.map (fun x => (x.fst, a.eval x.snd)) ps.toList = vs := parts_map ha _ _ hv
  simp only [execOp, Instr.build, Sem.run_bind, run_zeroValue hz, Result.andThen_ok, hund]
  rw [hpl]
  simp [hmap, hc]

def force : List Value → Option (List Value)
  | [] => some []
  | v :: vs => match force vs with
    | some r => some (v :: r)
    | none => none
def allCells (E : Env) : List Operand → Option (List Value)
  | [] => some []
  | x :: xs => match ev E x, allCells E xs with
    | some v, some r => force (v.cells.toList ++ r)
    | _, _ => none
/-- A struct of which the cells are told by operands, one a field. -/
theorem Qt.bldV {t : Nat} {ps : Array (Nat × Operand)} {vs : List (Nat × Value)} {z : Value} {pl : Array (Nat × Nat)} {vals : List Value} [hz : TZ P t z] [hp : TF P t pl] (xs : List Operand) (hv : parts E ps.toList = some vs)
    (_hev : allCells E xs = some vals) (hc : Instr.fill (pl[·]?) z.cells vs = some vals.toArray) : Qt P S E ⟨dst, .build t ps, ty, pos, af, g⟩ (.agg vals.toArray) := Qt.bld hv hc

/-- An array of a struct type's kind, all zero. -/
theorem Qt.bldA {t len e n : Nat} {z : Value} [hz : TZ P t z] [ht : TI P t (.array len e) n] {ne : Nat} {de : TypeDesc} [he : TI P e de ne] : Qt P S E ⟨dst, .build t #[], ty, pos, af, g⟩ (.agg z.cells) := fun a ha w _ => by
  simp [execOp, Instr.build, run_zeroValue hz, run_underlying ht, run_sizeOf he, Instr.fill]

theorem Ef.bsl {t e n ne len : Nat} {ps : Array (Nat × Operand)} {vs : List (Nat × Value)} {z : Value} {de : TypeDesc} {cs : Array Value} (hS : Sat oo w L) [ht : TI P t (.slice e) n] [he : TI P e de ne] [hz : TZ P e z] (hv : parts E ps.toList = some vs)
    (hc : Instr.fill (fun i => some (i * ne, ne)) ((Array.range (len * ne)).map (z.cells[· % z.cells.size]!)) vs = some cs) (hne : ne ≠ 0) (hl0 : len ≠ 0) (hl : len * ne ≤ 2 ^ 24) :
    Ef P N D E w ⟨dst, .buildSlice t len ps, ty, pos, af, g⟩ (fun u w' => ∃ b, u = .slice (some ⟨b, 0, none⟩) len len ∧ Sat oo w' (pt b (.cells cs e (0, 0)) :: L)) := Ef.of_run fun a ha => by
  have hmap : List.map (fun x => (x.fst, a.eval x.snd)) ps.toList = vs := parts_map ha _ _ hv
  refine .inl ⟨.slice (some ⟨w.heap.size, 0, none⟩) len len, w.alloc (.cells cs e (0, 0)), ?_, w.heap.size, rfl, hS.new _ rfl⟩
  have h1 : ¬ (2 ^ 24 < len * ne) := by omega
  have h2 : ¬ (len = 0 ∨ ne = 0) := by omega
  have h3 : ¬ (16777216 < len * ne) := by omega
  have h4 : ¬ (len * ne = 0) := Nat.mul_ne_zero hl0 hne
  simp [execOp, Instr.buildSlice, run_underlying ht, run_sizeOf he, h3, run_zeroValue hz, h4, hmap, hc, run_newRow]

theorem map_range0 {α : Type} (f : Nat → α) : Array.map f (Array.range 0) = #[] := by apply Array.ext'; simp

/-- An empty slice literal. -/
theorem Ef.bsl0 {t e n ne : Nat} {de : TypeDesc} (hS : Sat oo w L) [ht : TI P t (.slice e) n] [he : TI P e de ne] :
    Ef P N D E w ⟨dst, .buildSlice t 0 #[], ty, pos, af, g⟩ (fun u w' => ∃ b, u = .slice (some ⟨b, 0, none⟩) 0 0 ∧ Sat oo w' (own (.slice (some ⟨b, 0, none⟩) 0 0) e ne 0 [] :: L)) := Ef.of_run fun a ha => by
  refine .inl ⟨.slice (some ⟨w.heap.size, 0, none⟩) 0 0, w.alloc (.cells #[] e (0, 0)), ?_, w.heap.size, rfl, ?_⟩
  · simp [execOp, Instr.buildSlice, run_underlying ht, run_sizeOf he, Instr.fill, run_newRow, map_range0]
  · exact (hS.new (.cells #[] e (0, 0)) rfl).imp 0 rfl fun F hF => .inr ⟨_, 0, #[], rfl, hF, by simp, by omega, by simp, by simp⟩

theorem Ef.mks {t e n ne nb : Nat} {x : Operand} {m : Int} {z : Value} {de : TypeDesc} (hS : Sat oo w L) [ht : TI P t (.slice e) n] [he : TI P e de ne] [hz : TZ P e z] [hb : TB P e nb] (hx : ev E x = some (.int .i64 m)) (h0 : 0 ≤ m) (h1 : m ≤ 2 ^ 31) (hnb : nb ≤ 1024) :
    Ef P N D E w ⟨dst, .makeSlice t x x, ty, pos, af, g⟩ (fun u w' => ∃ b, u = .slice (some ⟨b, 0, none⟩) m.toNat m.toNat ∧ Sat oo w' (pt b (.cells ((Array.range (m.toNat * ne)).map (z.cells[· % z.cells.size]!)) e (0, 0)) :: L)) := Ef.of_run fun a ha => by
  refine .inl ⟨.slice (some ⟨w.heap.size, 0, none⟩) m.toNat m.toNat, w.alloc (.cells ((Array.range (m.toNat * ne)).map (z.cells[· % z.cells.size]!)) e (0, 0)), ?_, w.heap.size, rfl, hS.new _ rfl⟩
  obtain ⟨i, hi, hib⟩ : ∃ i, P.info? e = some i ∧ i.bytes = nb := by
    have := hb.b
    cases hi : P.info? e with
    | none => rw [hi] at this; cases this
    | some i => rw [hi] at this; exact ⟨i, rfl, by simpa using this⟩
  have hw : IntKind.i64.wrap m = m := IntWalk.i64_in m (by omega)
  have hq : ¬ (281474976710656 < (i.bytes : Int) * m) := by
    have h3 : (i.bytes : Int) * m ≤ 1024 * 2 ^ 31 := by
      rw [hib]
      exact Int.mul_le_mul (by omega) h1 h0 (by omega)
    omega
  have hroom : (askRoom (m.toNat * i.bytes)).run P w = .ok () w := by
    unfold askRoom
    split <;> simp [mark, Sem.run]
  have hz' := run_zeroValue hz w
  have hneg : ¬ m < 0 := by omega
  simp only [execOp, Instr.makeSlice, Sem.run_bind, run_underlying ht, ha.ev hx, asInt, asIntOf, run_typeInfo hi, hw, Sem.run_pure, Result.andThen_ok]
  by_cases hz0 : m.toNat * ne = 0
  · have e : Array.map (z.cells[· % z.cells.size]!) (Array.range (m.toNat * ne)) = #[] := by rw [hz0]; exact map_range0 _
    rw [e]
    simp [hneg, hq, hroom, run_sizeOf he, hz0, run_newRow, map_range0]
  · simp [hneg, hq, hroom, run_sizeOf he, hz0, run_newRow, hz']

/-! ### append -/
/-- What an append takes its new elements from. -/
def Src (P : Program) (w : World) (y : Value) (sz n : Nat) (new : List Value) : Prop :=
  (∀ w', w'.heap = w.heap → (Builtin.lenOf y).run P w' = .ok n w' ∧ (Builtin.firstCells sz n y).run P w' = .ok new.toArray w') ∧ new.length = n * sz

theorem growBy_le (need : Nat) : ∀ (r c : Nat), Builtin.growBy need r c ≤ 3 ^ r * (c + 1000) := by
  intro r
  induction r with
  | zero => intro c; simp [Builtin.growBy]
  | succ r ih =>
    intro c
    unfold Builtin.growBy
    split
    · have : 1 ≤ 3 ^ (r + 1) := Nat.one_le_pow _ _ (by omega)
      calc c ≤ 1 * (c + 1000) := by omega
        _ ≤ 3 ^ (r + 1) * (c + 1000) := Nat.mul_le_mul_right _ this
    · refine Nat.le_trans (ih _) ?_
      rw [Nat.pow_succ, Nat.mul_assoc]
      exact Nat.mul_le_mul_left _ (by omega)

theorem nextcap_le {need cap : Nat} (h : cap < need) : Builtin.nextslicecap need cap ≤ 81 * (need + 1000) := by
  unfold Builtin.nextslicecap
  split
  · omega
  · split
    · omega
    · refine Nat.le_trans (growBy_le need 4 cap) ?_
      exact Nat.mul_le_mul (by decide) (by omega)

theorem cap_room (q m b : Nat) (h : q ≤ 81 * (m + 1000)) (hm : m ≤ 2147483648) (hb : b ≤ 1024) : q * b ≤ 178120966643712 := by
  have h1 : q ≤ 173946256488 := Nat.le_trans h (Nat.le_trans (Nat.mul_le_mul_left 81 (Nat.add_le_add_right hm 1000)) (Nat.le_of_ble_eq_true rfl))
  calc q * b ≤ 173946256488 * 1024 := Nat.mul_le_mul h1 hb
    _ = 178120966643712 := rfl

theorem zeroCells_size (z : Array Value) (n : Nat) : (Builtin.zeroCells z n).size = n * z.size := by simp [Builtin.zeroCells]

theorem run_appendX {e t t1 nS nS1 ne nb n n' cap b : Nat} {c : Array Value} {T : Nat} {z : Value} {de : TypeDesc} {at' : Array TypeId} {d1 : TypeDesc} {y : Value} {new cs : List Value} {s : Option Addr}
    (ht : TI P t (.slice e) nS) (he : TI P e de ne) (hz : TZ P e z) (hzs : z.cells.size = ne) (hb : TB P e nb) (hnb : nb ≤ 1024) (h0 : at'[0]? = some t) (h1 : at'[1]? = some t1) (ht1 : TI P t1 d1 nS1) (hd1 : ∀ k, d1 ≠ .int k)
    (hsrc : Src P w y ne n' new) (hneed : n + n' ≤ 2147483648) (hne : ne ≠ 0)
    (hs : (s = none ∧ n = 0 ∧ cap = 0 ∧ cs = []) ∨ (s = some ⟨b, 0, none⟩ ∧ w.heap[b]? = some (.cells c T (0, 0)) ∧ c.size = cap * ne ∧ n ≤ cap ∧ c.toList.take (n * ne) = cs ∧ cs.length = n * ne)) (hpl : new.all Value.plain = true) :
    (s = none ∧ n' = 0 ∧ (Builtin.append_ at' ty #[.slice s n cap, y]).run P w = .ok (.slice none 0 0) w) ∨
    (s = some ⟨b, 0, none⟩ ∧ n + n' ≤ cap ∧ ∃ w', (Builtin.append_ at' ty #[.slice s n cap, y]).run P w = .ok (.slice (some ⟨b, 0, none⟩) (n + n') cap) w' ∧ w'.heap[b]? = some (.cells (wr c (n * ne) new) T (0, 0)) ∧ (∀ b', b' ≠ b → w'.heap[b']? = w.heap[b']?) ∧ Outs w w') ∨
    (∃ (ncap : Nat) (r : List Value) (w1 : World), n + n' ≤ ncap ∧ (w1.heap = w.heap ∧ Outs w w1) ∧ (cs ++ new ++ r).length = ncap * ne ∧ (Builtin.append_ at' ty #[.slice s n cap, y]).run P w = .ok (.slice (some ⟨w.heap.size, 0, none⟩) (n + n') ncap) (w1.alloc (.cells (cs ++ new ++ r).toArray e (0, 0)))) := by
  obtain ⟨hs12, hs3⟩ := hsrc
  obtain ⟨hs1, hs2⟩ := hs12 w rfl
  obtain ⟨i, hi, hib⟩ : ∃ i, P.info? e = some i ∧ i.bytes = nb := by
    have := hb.b
    cases hi : P.info? e with
    | none => rw [hi] at this; cases this
    | some i => rw [hi] at this; exact ⟨i, rfl, by simpa using this⟩
  have hmat : (match d1 with | .int _ => true | _ => false) = false := by cases d1 <;> simp at hd1 ⊢
  by_cases hroom : n + n' ≤ cap
  · rcases hs with ⟨rfl, rfl, rfl, rfl⟩ | ⟨rfl, hh, hsz, hle, htk, hcl⟩
    · refine .inl ⟨rfl, by omega, ?_⟩
      have hn0 : n' = 0 := by omega
      subst hn0
      simp [Builtin.append_, h0, h1, run_underlying ht, run_underlying ht1, run_sizeOf he, hs1, hs2]
    · refine .inr (.inl ⟨rfl, hroom, ?_⟩)
      have hadd : (⟨b, 0, none⟩ : Addr).add (n * ne) = ⟨b, n * ne, none⟩ := by
        unfold Addr.add
        by_cases hz : n * ne = 0 <;> simp [hz]
      obtain ⟨w', hr, hb', hne'⟩ := run_storeCells (P := P) (b := b) (n * ne) new 0 c w hh (by rw [hs3, hsz, Nat.add_zero, ← Nat.add_mul]; exact Nat.mul_le_mul_right _ hroom) hpl
      refine ⟨w', ?_, hb', hne'⟩
      simp [Builtin.append_, h0, h1, run_underlying ht, run_underlying ht1, run_sizeOf he, hs1, hs2, hroom, hadd, hr]
  · refine .inr (.inr ?_)
    have hcn : cap < n + n' := by omega
    have hq2 : ¬ (281474976710656 < Builtin.nextslicecap (n + n') cap * i.bytes) := by
      have h1 := nextcap_le hcn
      have h2 := cap_room _ _ i.bytes h1 hneed (by omega)
      exact Nat.not_lt.2 (Nat.le_trans h2 (Nat.le_of_ble_eq_true rfl))
    have hask : ∀ (m : Nat) (w : World), (askRoom m).run P w = .ok () w := fun m w => by
      unfold askRoom
      split <;> simp [mark, Sem.run]
    let q := w.tape w.drawn (.appendCap (n + n') cap e)
    let ncap := n + n' + q % (2 ^ 63 - (n + n'))
    have hold : (Builtin.firstCells ne n (.slice s n cap)).run P w.drew = .ok cs.toArray w.drew := by
      rcases hs with ⟨rfl, rfl, rfl, rfl⟩ | ⟨rfl, hh, hsz, hle, htk, hcl⟩
      · simp [Builtin.firstCells]
      · have := run_loadCellsFrom (P := P) (w := w.drew) (b := b) hh 0 (n * ne) 0 #[] (by rw [hsz]; simpa using Nat.mul_le_mul_right ne hle)
        simp only [Nat.zero_add, Array.empty_append] at this
        simp only [Builtin.firstCells, loadCells, this]
        congr 1
        apply Array.ext'
        simp only [Array.toList_extract, List.extract_eq_drop_take', List.drop_zero]
        exact htk
    obtain ⟨_, hs2'⟩ := hs12 w.drew rfl
    refine ⟨ncap, (Builtin.zeroCells z.cells (ncap - (n + n'))).toList, w.drew, by omega, ⟨rfl, rfl, rfl, rfl⟩, ?_, ?_⟩
    · have hcl : cs.length = n * ne := by
        rcases hs with ⟨rfl, rfl, rfl, rfl⟩ | ⟨rfl, hh, hsz, hle, htk, hcl⟩
        · simp
        · exact hcl
      simp only [List.length_append, Array.length_toList, zeroCells_size, hzs, hs3, hcl]
      rw [← Nat.add_mul, ← Nat.add_mul]
      congr 1
      omega
    · have hbig : ¬ (9223372036854775807 < (n : Int) + n' ∧ i.bytes = 0) := by omega
      have hch : (Sem.choose (.appendCap (n + n') cap e) Sem.pure).run P w = .ok ncap w.drew := by
        simp only [Sem.run, Question.forced]
        rfl
      simp [Builtin.append_, h0, h1, run_underlying ht, run_underlying ht1, run_sizeOf he, hs1, hroom, run_typeInfo hi, hq2, hask, hbig, choose, hch, hold, hs2', run_zeroValue hz, run_newRow]
      congr 3
      simp

/-- The first piece in the place of the k-th of the others. -/
theorem Sat.into {p : HP} (h : Sat oo w (p :: L)) (k : Nat) : Sat oo w (L.set k p) := by
  refine h.sel ((List.range L.length).map fun i => if i = k then 0 else i + 1) ?_ ?_
  · rw [List.Nodup, List.pairwise_map]
    refine List.nodup_range.imp fun {a b} hab e => hab ?_
    by_cases ha : a = k
    · by_cases hb : b = k
      · omega
      · simp only [ha, hb, if_true, if_false] at e; omega
    · by_cases hb : b = k
      · simp only [ha, hb, if_true, if_false] at e; omega
      · simp only [ha, hb, if_false] at e; omega
  · apply List.ext_getElem
    · simp
    · intro i h1 h2
      simp only [List.length_map, List.length_range, List.length_set] at h1 h2
      simp only [List.getElem_map, List.getElem_range]
      by_cases e : i = k
      · subst e; simp
      · simp [e, List.getElem_set_ne (Ne.symm e), h1]

theorem Sat.ownPos {v : Value} {T sz n : Nat} {cs : List Value} (hS : Sat oo w L) (k : Nat) (hk : L[k]? = some (own v T sz n cs)) (hn : 0 < n) :
    ∃ b cap c, v = .slice (some ⟨b, 0, none⟩) n cap ∧ c.size = cap * sz ∧ n ≤ cap ∧ cs.length = n * sz ∧ c.toList.take (n * sz) = cs ∧ Sat oo w (L.set k (pt b (.cells c T (0, 0)))) := by
  obtain ⟨⟨b, cap, c⟩, h⟩ := hS.ex (α := Nat × Nat × Array Value) k (q := fun x F => (v = .slice (some ⟨x.1, 0, none⟩) n x.2.1 ∧ x.2.2.size = x.2.1 * sz ∧ n ≤ x.2.1 ∧ cs.length = n * sz ∧ x.2.2.toList.take (n * sz) = cs) ∧ F = [(x.1, .cells x.2.2 T (0, 0))]) hk (by
    rintro F (⟨_, h, _⟩ | ⟨b, cap, c, h1, h2, h3, h4, h5, h6⟩)
    · omega
    · exact ⟨⟨b, cap, c⟩, ⟨h1, h3, h4, h5, h6⟩, h2⟩)
  have hlt : k < L.length := (List.getElem?_eq_some_iff.1 hk).1
  have hk' : (L.set k (fun F => (v = .slice (some ⟨b, 0, none⟩) n cap ∧ c.size = cap * sz ∧ n ≤ cap ∧ cs.length = n * sz ∧ c.toList.take (n * sz) = cs) ∧ F = [(b, .cells c T (0, 0))]))[k]? = some (fun F => (v = .slice (some ⟨b, 0, none⟩) n cap ∧ c.size = cap * sz ∧ n ≤ cap ∧ cs.length = n * sz ∧ c.toList.take (n * sz) = cs) ∧ F = [(b, .cells c T (0, 0))]) := by
    rw [List.getElem?_set_self hlt]
  obtain ⟨h1, h2, h3, h4, h5⟩ := h.fact k hk' (fun F hF => hF.1)
  refine ⟨b, cap, c, h1, h2, h3, h4, h5, ?_⟩
  have := h.imp k hk' (p' := pt b (.cells c T (0, 0))) (fun F hF => hF.2)
  rwa [List.set_set] at this

theorem Sat.ownMk {b cap n sz T : Nat} {c : Array Value} {cs : List Value} (hS : Sat oo w L) (k : Nat) (hk : L[k]? = some (pt b (.cells c T (0, 0)))) (h1 : c.size = cap * sz) (h2 : n ≤ cap) (h3 : cs.length = n * sz) (h4 : c.toList.take (n * sz) = cs) :
    Sat oo w (L.set k (own (.slice (some ⟨b, 0, none⟩) n cap) T sz n cs)) :=
  hS.imp k hk fun F hF => .inr ⟨b, cap, c, rfl, hF, h1, h2, h3, h4⟩

theorem Src.own {v : Value} {T sz n : Nat} {cs : List Value} (hS : Sat oo w L) (k : Nat) (hk : L[k]? = some (Gx.own v T sz n cs)) : Src P w v sz n cs := by
  rcases Nat.eq_zero_or_pos n with rfl | hn
  · obtain ⟨h1, h2⟩ : (v = .slice none 0 0 ∨ ∃ b cap, v = .slice (some ⟨b, 0, none⟩) 0 cap) ∧ cs = [] := hS.fact k hk (by
      rintro F (⟨h1, _, h2, _⟩ | ⟨b, cap, c, h1, _, _, _, h5, h6⟩)
      · exact ⟨.inl h1, h2⟩
      · exact ⟨.inr ⟨b, cap, h1⟩, by simpa using h5⟩)
    subst h2
    rcases h1 with rfl | ⟨b, cap, rfl⟩
    · exact ⟨fun w' _ => ⟨by simp [Builtin.lenOf], by simp [Builtin.firstCells]⟩, by simp⟩
    · exact ⟨fun w' _ => ⟨by simp [Builtin.lenOf], by simp [Builtin.firstCells, loadCells, loadCellsFrom]⟩, by simp⟩
  · obtain ⟨b, cap, c, rfl, h1, h2, h3, h4, h5⟩ := hS.ownPos k hk hn
    have hlt : k < L.length := (List.getElem?_eq_some_iff.1 hk).1
    have hb := h5.get k (by rw [List.getElem?_set_self hlt])
    refine ⟨fun w' hw' => ⟨by simp [Builtin.lenOf], ?_⟩, h3⟩
    have := run_loadCellsFrom (P := P) (w := w') (b := b) (by rw [hw']; exact hb) 0 (n * sz) 0 #[] (by rw [h1]; simpa using Nat.mul_le_mul_right sz h2)
    simp only [Nat.zero_add, Array.empty_append] at this
    simp only [Builtin.firstCells, loadCells, this]
    congr 1
    apply Array.ext'
    simp only [Array.toList_extract, List.extract_eq_drop_take', List.drop_zero]
    exact h4

theorem Src.pt {b off n cap sz T : Nat} {c : Array Value} {fz : Nat × Nat} (hb : w.heap[b]? = some (.cells c T fz)) (hle : off + n * sz ≤ c.size) :
    Src P w (.slice (some ⟨b, off, none⟩) n cap) sz n ((c.toList.drop off).take (n * sz)) := by
  refine ⟨fun w' hw' => ⟨by simp [Builtin.lenOf], ?_⟩, by simp; omega⟩
  have := run_loadCellsFrom (P := P) (w := w') (b := b) (by rw [hw']; exact hb) off (n * sz) 0 #[] (by omega)
  simp only [Nat.add_zero, Array.empty_append] at this
  simp only [Builtin.firstCells, loadCells, this]
  congr 1
  apply Array.ext'
  simp only [Array.toList_extract, List.extract_eq_take_drop]
  rw [show off + n * sz - off = n * sz by omega]

theorem Ef.app {e t t1 nS nS1 ne nb n n' k : Nat} {z : Value} {de : TypeDesc} {d1 : TypeDesc} {x y : Operand} {v u : Value} {new cs : List Value}
    (hS : Sat oo w L) (hk : L[k]? = some (own v e ne n cs)) (hx : ev E x = some v) (hy : ev E y = some u)
    [ht : TI P t (.slice e) nS] [he : TI P e de ne] [hz : TZ P e z] [hb : TB P e nb] [ht1 : TI P t1 d1 nS1]
    (hsrc : Src P w u ne n' new) (hneed : n + n' ≤ 2147483648) (hpl : new.all Value.plain = true) (hzs : z.cells.size = ne := by rfl) (hnb : Nat.ble nb 1024 = true := by rfl) (hne : Nat.beq ne 0 = false := by rfl)
    (hd1 : ∀ k, d1 ≠ .int k := by intro k h; cases h) :
    Ef P N D E w ⟨dst, .call ⟨.builtin .append, #[x, y], #[t, t1]⟩, ty, pos, af, g⟩ (fun v' w' => Sat oo w' (L.set k (own v' e ne (n + n') (cs ++ new)))) := Ef.of_run fun a ha => by
  have hnb' : nb ≤ 1024 := by simpa using hnb
  have hne' : ne ≠ 0 := by intro h; subst h; simp at hne
  have hlt : k < L.length := (List.getElem?_eq_some_iff.1 hk).1
  have hrun : ∀ r w', (Builtin.append_ #[t, t1] ty #[v, u]).run P w = .ok r w' → (execOp a.eval ⟨dst, .call ⟨.builtin .append, #[x, y], #[t, t1]⟩, ty, pos, af, g⟩).run P w = .ok (.value r) w' := fun r w' h => by
    simp [execOp, resolve, invoke, builtin, ha.ev hx, ha.ev hy, h]
  have hn' := hsrc.2
  have hcase : (v = .slice none 0 0 ∧ n = 0 ∧ cs = []) ∨ ∃ b cap c, v = .slice (some ⟨b, 0, none⟩) n cap ∧ c.size = cap * ne ∧ n ≤ cap ∧ cs.length = n * ne ∧ c.toList.take (n * ne) = cs ∧ Sat oo w (L.set k (Gx.pt b (.cells c e (0, 0)))) := by
    obtain ⟨x, hx⟩ := hS.ex (α := Option (Nat × Nat × Array Value)) k (q := fun x F => match x with
      | none => (v = .slice none 0 0 ∧ n = 0 ∧ cs = []) ∧ F = []
      | some x => (v = .slice (some ⟨x.1, 0, none⟩) n x.2.1 ∧ x.2.2.size = x.2.1 * ne ∧ n ≤ x.2.1 ∧ cs.length = n * ne ∧ x.2.2.toList.take (n * ne) = cs) ∧ F = [(x.1, .cells x.2.2 e (0, 0))]) hk (by
      rintro F (⟨h1, h2, h3, h4⟩ | ⟨b, cap, c, h1, h2, h3, h4, h5, h6⟩)
      · exact ⟨none, ⟨h1, h2, h3⟩, h4⟩
      · exact ⟨some ⟨b, cap, c⟩, ⟨h1, h3, h4, h5, h6⟩, h2⟩)
    cases x with
    | none => exact .inl (hx.fact k (List.getElem?_set_self hlt) (fun F hF => hF.1))
    | some x =>
      obtain ⟨b, cap, c⟩ := x
      refine .inr ⟨b, cap, c, ?_⟩
      obtain ⟨h1, h2, h3, h4, h5⟩ := hx.fact k (List.getElem?_set_self hlt) (fun F hF => hF.1)
      refine ⟨h1, h2, h3, h4, h5, ?_⟩
      have := hx.imp k (List.getElem?_set_self hlt) (p' := Gx.pt b (.cells c e (0, 0))) (fun F hF => hF.2)
      rwa [List.set_set] at this
  have fin : ∀ (ncap : Nat) (r : List Value) (w1 : World), n + n' ≤ ncap → (w1.heap = w.heap ∧ Outs w w1) → (cs ++ new ++ r).length = ncap * ne → cs.length = n * ne →
      Sat oo (w1.alloc (.cells (cs ++ new ++ r).toArray e (0, 0))) (L.set k (own (.slice (some ⟨w.heap.size, 0, none⟩) (n + n') ncap) e ne (n + n') (cs ++ new))) := fun ncap r w1 h1 h2 h3 h4 => by
    have h5 : Sat oo (w1.alloc (.cells (cs ++ new ++ r).toArray e (0, 0))) (Gx.pt w.heap.size (.cells (cs ++ new ++ r).toArray e (0, 0)) :: L) := hS.new _ (by rw [← h2.1]; rfl) (Outs.via h2.2 ⟨rfl, rfl, rfl⟩)
    have h6 := h5.into k
    have h7 := h6.ownMk (cap := ncap) (n := n + n') (sz := ne) (cs := cs ++ new) k (List.getElem?_set_self hlt) (by simpa using h3) h1 (by simp only [List.length_append, h4, hn', Nat.add_mul]) (by
      rw [List.append_assoc, ← List.append_assoc]
      exact List.take_left' (by simp only [List.length_append, h4, hn', Nat.add_mul]))
    rwa [List.set_set] at h7
  rcases hcase with ⟨rfl, rfl, rfl⟩ | ⟨b, cap, c, rfl, h3, h4, h5, h6, h7⟩
  · rcases run_appendX (ty := ty) (w := w) (n := 0) (cap := 0) (b := 0) (c := #[]) (T := 0) (s := none) (at' := #[t, t1]) ht he hz hzs hb hnb' rfl rfl ht1 hd1 hsrc hneed hne' (.inl ⟨rfl, rfl, rfl, rfl⟩) hpl with ⟨_, hz0, hr⟩ | ⟨h, _⟩ | ⟨ncap, r, w1, g1, g2, g3, hr⟩
    · subst hz0
      have hnew : new = [] := by simpa using hn'
      subst hnew
      refine .inl ⟨_, _, hrun _ _ hr, ?_⟩
      have : L.set k (own (.slice none 0 0) e ne (0 + 0) ([] ++ [])) = L := by
        have hk' := List.getElem?_eq_some_iff.1 hk
        obtain ⟨hk1, hk2⟩ := hk'
        simp only [List.append_nil, Nat.add_zero]
        rw [← hk2]; exact List.set_getElem_self hk1
      rw [this]; exact hS
    · cases h
    · exact .inl ⟨_, _, hrun _ _ hr, fin ncap r w1 g1 g2 g3 (by simp)⟩
  · have hb' := h7.get k (List.getElem?_set_self hlt)
    rcases run_appendX (ty := ty) (w := w) (n := n) (cap := cap) (b := b) (c := c) (T := e) (s := some ⟨b, 0, none⟩) (at' := #[t, t1]) ht he hz hzs hb hnb' rfl rfl ht1 hd1 hsrc hneed hne' (.inr ⟨rfl, hb', h3, h4, h6, h5⟩) hpl with ⟨h, _⟩ | ⟨_, hroom, w', hr, g1, g2, go⟩ | ⟨ncap, r, w1, g1, g2, g3, hr⟩
    · cases h
    · refine .inl ⟨_, _, hrun _ _ hr, ?_⟩
      have h8 := h7.put k (List.getElem?_set_self hlt) _ g1 g2 go
      rw [List.set_set] at h8
      have hle : (n + n') * ne ≤ cap * ne := Nat.mul_le_mul_right _ hroom
      have h9 := h8.ownMk (cap := cap) (n := n + n') (sz := ne) (cs := cs ++ new) k (List.getElem?_set_self hlt) (by rw [wr_size, h3]) hroom (by simp only [List.length_append, h5, hn', Nat.add_mul]) (by
        apply List.ext_getElem?
        intro i
        rw [Nat.add_mul] at hle ⊢
        rw [List.getElem?_take, Array.getElem?_toList, wr_get _ _ _ _ (by rw [hn', h3]; exact hle)]
        have hcs : ∀ j, j < n * ne → c[j]? = cs[j]? := fun j hj => by
          rw [← h6, List.getElem?_take, if_pos hj, Array.getElem?_toList]
        by_cases h10 : i < n * ne
        · rw [if_pos (by omega), if_neg (by omega), hcs i h10, List.getElem?_append_left (by omega)]
        · by_cases h11 : i < n * ne + n' * ne
          · rw [if_pos h11, if_pos (by omega), List.getElem?_append_right (by omega), h5]
          · rw [if_neg h11, List.getElem?_eq_none (by simp only [List.length_append]; omega)])
      rwa [List.set_set] at h9
    · exact .inl ⟨_, _, hrun _ _ hr, fin ncap r w1 g1 g2 g3 h5⟩

theorem Sat.ownForm {v : Value} {T sz n : Nat} {cs : List Value} (hS : Sat oo w L) (k : Nat) (hk : L[k]? = some (own v T sz n cs)) : ∃ sp cap, v = .slice sp n cap :=
  hS.fact k hk (by
    rintro F (⟨h1, h2, _⟩ | ⟨b, cap, c, h1, _⟩)
    · exact ⟨none, 0, by rw [h1, h2]⟩
    · exact ⟨_, cap, h1⟩)

/-- A cell of an owned row. -/
theorem own_cell {c : Array Value} {cs : List Value} {m : Nat} (h : c.toList.take m = cs) {i : Nat} (hi : i < m) : c[i]? = cs[i]? := by
  rw [← h, List.getElem?_take, if_pos hi, Array.getElem?_toList]

/-- A cell of a list of rows of one width. -/
theorem rows_cell {α : Type} (f : α → List Value) (sz : Nat) (hf : ∀ x, (f x).length = sz) : ∀ (l : List α) (i j : Nat) (hi : i < l.length), j < sz → (l.flatMap f)[i * sz + j]? = (f l[i])[j]? := by
  intro l
  induction l with
  | nil => intro i j hi; simp at hi
  | cons x l ih =>
    intro i j hi hj
    rw [List.flatMap_cons]
    cases i with
    | zero => rw [Nat.zero_mul, Nat.zero_add, List.getElem?_append_left (by rw [hf]; exact hj)]; rfl
    | succ i =>
      rw [List.getElem?_append_right (by rw [hf, Nat.succ_mul]; omega), hf, show (i + 1) * sz + j - sz = i * sz + j by rw [Nat.succ_mul]; omega]
      exact ih i j (by simpa using hi) hj
theorem rows_length {α : Type} (f : α → List Value) (sz : Nat) (hf : ∀ x, (f x).length = sz) (l : List α) : (l.flatMap f).length = l.length * sz := by
  induction l with
  | nil => simp
  | cons x l ih => rw [List.flatMap_cons, List.length_append, hf, ih, List.length_cons, Nat.succ_mul]; omega

theorem Sat.nilOwn {T sz : Nat} (hS : Sat oo w L) : Sat oo w (own (.slice none 0 0) T sz 0 [] :: L) := by
  have h1 : Sat oo w (Star [] :: L) := Sat.star (B := []) hS
  exact h1.imp 0 rfl (fun F ⟨G, _, hG⟩ => .inl ⟨rfl, rfl, rfl, by simpa using hG⟩)

abbrev ints (l : List Int) : List Value := l.map (.int .i64)
theorem ints_len (l : List Int) : (ints l).length = l.length * 1 := by simp
theorem int_cell {c : Array Value} {l : List Int} {m : Nat} (h : c.toList.take m = ints l) (hm : m = l.length * 1) {i : Nat} (hi : i < l.length) : c.toList[0 + ((i : Int)).toNat * 1]? = some (.int .i64 l[i]) := by
  rw [show 0 + ((i : Int)).toNat * 1 = i by omega, Array.getElem?_toList, own_cell h (by omega)]
  simp [ints, hi]

theorem rows_take {α : Type} (f : α → List Value) (sz : Nat) (hf : ∀ x, (f x).length = sz) (l : List α) : ∀ k, (l.flatMap f).take (k * sz) = (l.take k).flatMap f := by
  induction l with
  | nil => intro k; simp
  | cons x l ih =>
    intro k
    cases k with
    | zero => simp
    | succ k =>
      rw [List.flatMap_cons, List.take_succ_cons, List.flatMap_cons, List.take_append, hf, show (k + 1) * sz - sz = k * sz by rw [Nat.succ_mul]; omega, ih, List.take_of_length_le (by rw [hf, Nat.succ_mul]; omega)]
theorem rows_drop {α : Type} (f : α → List Value) (sz : Nat) (hf : ∀ x, (f x).length = sz) (l : List α) : ∀ k, (l.flatMap f).drop (k * sz) = (l.drop k).flatMap f := by
  induction l with
  | nil => intro k; simp
  | cons x l ih =>
    intro k
    cases k with
    | zero => simp
    | succ k =>
      rw [List.flatMap_cons, List.drop_succ_cons, List.drop_append, hf, show (k + 1) * sz - sz = k * sz by rw [Nat.succ_mul]; omega, ih, List.drop_of_length_le (by rw [hf, Nat.succ_mul]; omega)]
      simp
/-- The first k rows of an owned row, as what an append takes. -/
theorem Src.rowsTake {α : Type} {f : α → List Value} {sz b cap cap' T k : Nat} {c : Array Value} {l : List α} (hf : ∀ x, (f x).length = sz) (hb : w.heap[b]? = some (.cells c T (0, 0))) (h1 : c.size = cap * sz) (h2 : l.length ≤ cap)
    (h4 : c.toList.take (l.length * sz) = l.flatMap f) (hk : k ≤ l.length) : Src P w (.slice (some ⟨b, 0, none⟩) k cap') sz k ((l.take k).flatMap f) := by
  have hle : k * sz ≤ cap * sz := Nat.mul_le_mul_right _ (by omega)
  have h := Src.pt (P := P) (w := w) (b := b) (off := 0) (n := k) (cap := cap') (sz := sz) hb (by omega)
  have hle2 : k * sz ≤ l.length * sz := Nat.mul_le_mul_right _ hk
  have e : (c.toList.drop 0).take (k * sz) = (l.take k).flatMap f := by
    rw [List.drop_zero, ← rows_take f sz hf, ← h4, List.take_take, Nat.min_eq_left hle2]
  rwa [e] at h
theorem Src.rowsDrop {α : Type} {f : α → List Value} {sz b cap cap' T k off m : Nat} {c : Array Value} {l : List α} (hf : ∀ x, (f x).length = sz) (hb : w.heap[b]? = some (.cells c T (0, 0))) (h1 : c.size = cap * sz) (h2 : l.length ≤ cap)
    (h4 : c.toList.take (l.length * sz) = l.flatMap f) (hk : k ≤ l.length) (hm : m = l.length - k) (ho : off = k * sz ∨ (m = 0 ∧ off = 0)) : Src P w (.slice (some ⟨b, off, none⟩) m cap') sz m ((l.drop k).flatMap f) := by
  subst hm
  have hle2 : l.length * sz ≤ cap * sz := Nat.mul_le_mul_right _ h2
  have hsp : k * sz + (l.length - k) * sz = l.length * sz := by rw [← Nat.add_mul]; congr 1; omega
  have hoff : off + (l.length - k) * sz ≤ c.size := by
    rcases ho with rfl | ⟨h0, rfl⟩
    · omega
    · rw [h0]; omega
  have h := Src.pt (P := P) (w := w) (b := b) (off := off) (n := l.length - k) (cap := cap') (sz := sz) hb hoff
  have e : (c.toList.drop off).take ((l.length - k) * sz) = (l.drop k).flatMap f := by
    rcases ho with rfl | ⟨h0, rfl⟩
    · rw [← rows_drop f sz hf, ← h4, List.drop_take]
      congr 1
      omega
    · have : k = l.length := by omega
      subst this
      simp
  rwa [e] at h

theorem foldl_wr (l : List Value) : ∀ (k : Nat) (a : Array Value) (off : Nat), (l.zipIdx k).foldl (fun cs x => cs.setIfInBounds (off + x.2) x.1) a = wr a (off + k) l := by
  induction l with
  | nil => intro k a off; rfl
  | cons v l ih => intro k a off; simp only [List.zipIdx_cons, List.foldl_cons, wr]; rw [ih]; rfl
theorem wr_all (l : List Value) (a : Array Value) (h : a.size = l.length) : wr a 0 l = l.toArray := by
  apply Array.ext_getElem?
  intro i
  rw [wr_get l a 0 i (by omega)]
  by_cases hi : i < l.length
  · rw [if_pos ⟨by omega, by omega⟩]; simp
  · rw [if_neg (by omega), Array.getElem?_eq_none (by omega)]; simp; omega
/-- A slice literal of one element. -/
theorem Ef.bsl1 {t e n ne : Nat} {x : Operand} {v z : Value} {de : TypeDesc} (hS : Sat oo w L) [ht : TI P t (.slice e) n] [he : TI P e de ne] [hz : TZ P e z] (hx : ev E x = some v) (hv : v.cells.toList.length = ne := by rfl) (hne : Nat.beq ne 0 = false := by rfl) (hne2 : Nat.ble ne 1024 = true := by rfl) :
    Ef P N D E w ⟨dst, .buildSlice t 1 #[(0, x)], ty, pos, af, g⟩ (fun u w' => ∃ b, u = .slice (some ⟨b, 0, none⟩) 1 1 ∧ Sat oo w' (pt b (.cells v.cells e (0, 0)) :: L)) := Ef.of_run fun a ha => by
  refine .inl ⟨.slice (some ⟨w.heap.size, 0, none⟩) 1 1, w.alloc (.cells v.cells e (0, 0)), ?_, w.heap.size, rfl, hS.new _ rfl⟩
  have hv' : v.cells.size = ne := by simpa using hv
  have hne' : ne ≠ 0 := by intro h; subst h; simp at hne
  have hne2' : ne ≤ 1024 := by simpa using hne2
  have h3 : ¬ (16777216 < 1 * ne) := by omega
  have h4 : ¬ (1 * ne = 0) := by omega
  have hfill : Instr.fill (fun i => some (i * ne, ne)) (Array.map (fun x => z.cells[x % z.cells.size]!) (Array.range (1 * ne))) [(0, v)] = some v.cells := by
    have hsz : (Array.map (fun x => z.cells[x % z.cells.size]!) (Array.range (1 * ne))).size = ne := by simp
    simp only [Instr.fill, hv', Nat.zero_mul, Nat.zero_add, hsz]
    have hcond : (ne != ne || decide (ne > ne)) = false := by simp
    have h5 := foldl_wr v.cells.toList 0 (Array.map (fun x => z.cells[x % z.cells.size]!) (Array.range (1 * ne))) 0
    rw [wr_all _ _ (by rw [hsz]; exact hv.symm)] at h5
    simp only [Nat.zero_add, Array.toArray_toList] at h5
    rw [← Array.foldl_toList, Array.toList_zipIdx, h5]
    simp
  simp only [execOp, Instr.buildSlice, Sem.run_bind, run_underlying ht, run_sizeOf he, Result.andThen_ok]
  simp [run_zeroValue hz, hne', ha.ev hx]
  simp only [Nat.one_mul] at hfill
  simp [hfill, run_newRow]
  omega
end
end Go.Gx

/- More quiet operations: equality of arrays of numbers. No condition; nothing of any program stands here. -/
namespace Go.Gx
open Go

def intV : Value → Int
  | .int _ n => n
  | _ => 0

section
variable {P : Program} {S : World → Prop} {E : Env} {dst : Option Nat} {ty : TypeId} {pos : String} {af : Array Edge} {g : Option (Nat × Bool)}

theorem list_all_eq (xs ys : List Int) (h : xs.length = ys.length) : ((List.range xs.length).all fun i => xs.getD i 0 == ys.getD i 0) = decide (xs = ys) := by
  rw [Bool.eq_iff_iff]
  simp only [List.all_eq_true, List.mem_range, beq_iff_eq, decide_eq_true_eq]
  constructor
  · intro h1
    apply List.ext_getElem h
    intro i g1 g2
    have := h1 i g1
    simpa [List.getD, g1, g2] using this
  · rintro rfl i _; rfl

theorem equal_ints {t len e n : Nat} {k : IntKind} (hT : TI P t (.array len e) n) (hE : TI P e (.int k) 1) {xs ys : List Int} (h1 : xs.length = len) (h2 : ys.length = len) (w : World) :
    (Op.equal t (.agg (xs.map (Value.int k)).toArray) (.agg (ys.map (Value.int k)).toArray)).run P w = .ok (decide (xs = ys)) w := by
  obtain ⟨i, hi, hsz⟩ : ∃ i, P.info? e = some i ∧ i.size = 1 := by
    have := hE.s
    cases hi : P.info? e with
    | none => rw [hi] at this; cases this
    | some i => exact ⟨i, rfl, by rw [hi] at this; simpa using this⟩
  have hc : P.cellsOf e = 1 := by simp [Program.cellsOf, hi, hsz]
  show (Op.equalIn (9999 + 1) t _ _).run P w = _
  rw [run_equalIn_array w 9999 _ _ hT.u hi, ← list_all_eq xs ys (h1.trans h2.symm), h1, hc]
  have hl : ∀ i ∈ List.range len, i < len := fun i hi => List.mem_range.1 hi
  generalize List.range len = is at hl
  induction is with
  | nil => simp [Op.eqItems]
  | cons j is ih =>
    have hj := hl j (by simp)
    have px : (part e (xs.map (Value.int k)).toArray (j * 1)).run P w = .ok (.int k (xs.getD j 0)) w := by
      simp [part, run_isAgg hE, aggB, List.getD, List.getElem?_eq_getElem (show j < xs.length by omega)]
    have py : (part e (ys.map (Value.int k)).toArray (j * 1)).run P w = .ok (.int k (ys.getD j 0)) w := by
      simp [part, run_isAgg hE, aggB, List.getD, List.getElem?_eq_getElem (show j < ys.length by omega)]
    have pe : (Op.equalIn 9999 e (.int k (xs.getD j 0)) (.int k (ys.getD j 0))).run P w = .ok (xs.getD j 0 == ys.getD j 0) w :=
      run_equalIn_int w 9998 e k k _ _ hE.u
    simp only [Op.eqItems, Sem.run_bind, px, py, pe, Result.andThen_ok, List.all_cons]
    cases hb : (xs.getD j 0 == ys.getD j 0)
    · simp
    · simp only [Bool.not_true, Bool.false_eq_true, if_false, Bool.true_and]
      exact ih fun j hj => hl j (by simp [hj])

theorem Qt.eqlA {x y : Operand} {t t' len e n : Nat} {k : IntKind} {cx cy : Array Value} [hT : TI P t (.array len e) n] [hE : TI P e (.int k) 1] (hx : ev E x = some (.agg cx)) (hy : ev E y = some (.agg cy))
    (h1 : cx = ((cx.toList.map intV).map (Value.int k)).toArray) (h2 : cy = ((cy.toList.map intV).map (Value.int k)).toArray) (l1 : cx.toList.length = len) (l2 : cy.toList.length = len) (hg : P.eqGuardType P.depth t = false) :
    Qt P S E ⟨dst, .binOp .eql t x y t', ty, pos, af, g⟩ (.bool (decide (cx.toList.map intV = cy.toList.map intV))) := fun a ha w _ => by
  have h := equal_ints hT hE (xs := cx.toList.map intV) (ys := cy.toList.map intV) (by simpa using l1) (by simpa using l2) w
  rw [← h1, ← h2] at h
  simp [execOp, ha.ev hx, ha.ev hy, binOp, eqGuard, h, hg]

/-- Cells in runs of the same. -/
def zrun (l : List (Nat × Value)) : Array Value := (l.flatMap fun p => List.replicate p.1 p.2).toArray

def zsz : List (Nat × Value) → Nat
  | [] => 0
  | (n, _) :: t => n + zsz t
def zat : List (Nat × Value) → Nat → Option Value
  | [], _ => none
  | (n, v) :: t, k => if k < n then some v else zat t (k - n)
theorem zrun_size : ∀ (l : List (Nat × Value)), (zrun l).size = zsz l
  | [] => rfl
  | (n, v) :: t => by
    have := zrun_size t
    simp only [zrun, List.size_toArray] at this
    simp only [zrun, zsz, List.flatMap_cons, List.size_toArray, List.length_append, List.length_replicate, this]
theorem zrun_get : ∀ (l : List (Nat × Value)) (k : Nat), (zrun l).toList[k]? = zat l k
  | [], k => by simp [zrun, zat]
  | (n, v) :: t, k => by
    have := zrun_get t (k - n)
    simp only [zrun, zat, List.flatMap_cons] at this ⊢
    split
    · rw [List.getElem?_append_left (by simpa using by assumption), List.getElem?_replicate, if_pos (by assumption)]
    · rw [List.getElem?_append_right (by simp; omega), List.length_replicate]; exact this

theorem fill1 {pl : Nat → Option (Nat × Nat)} {c : Array Value} {v : Value} {i off : Nat} (hp : pl i = some (off, 1)) (hv : v.cells = #[v]) (ho : off + 1 ≤ c.size) : Instr.fill pl c [(i, v)] = some (wr c off [v]) := by
  have h : ¬ (1 ≠ 1 ∨ off + 1 > c.size) := by omega
  simp only [Instr.fill, hp, hv]
  simp [wr]
  omega

/-- A shift to the right by a number that is known. -/
theorem Qt.shrD {x y : Operand} {t t' : Nat} {k k' : IntKind} {m n : Int} (d : Int) (hx : ev E x = some (.int k m)) (hy : ev E y = some (.int k' n)) (hn : 0 ≤ n) (hd : (2 : Int) ^ (Min.min n.toNat k.bits) = d) (hd0 : 0 < d) : Qt P S E ⟨dst, .binOp .shr t x y t', ty, pos, af, g⟩ (.int k (m / d)) := by
  have := Qt.shr (P := P) (S := S) (dst := dst) (ty := ty) (pos := pos) (af := af) (g := g) (t := t) (t' := t') hx hy hn
  rw [hd, Int.fdiv_eq_ediv_of_nonneg _ (by omega)] at this
  exact this

/-- The table of the bit lengths of bytes. -/
theorem Qt.ixL8 {x i : Operand} {t n : Nat} {k : IntKind} {m : Int} [hT : TI P t .string n] (hx : ev E x = some (.string Lib.len8tab)) (hi : ev E i = some (.int k m)) (h0 : 0 ≤ m) (h1 : m ≤ 255) : Qt P S E ⟨dst, .index t x i, ty, pos, af, g⟩ (.int .u8 (Lib.len8 m)) := fun a ha w _ => by
  have h := Lib.run_index_len8tab (P := P) w t k m hT.u h0 h1
  simp [execOp, ha.ev hx, ha.ev hi, h]
end
end Go.Gx

/- Tables in memory: rows of cells of one width, read and written by place; functions changed at one place. No condition; nothing of any program stands here. -/
namespace Go.Proofs
open Go Go.Gx

def upd {α : Type} (f : Int → α) (i : Int) (v : α) : Int → α := fun j => if j = i then v else f j
theorem upd_same {α : Type} (f : Int → α) (i : Int) (v : α) : upd f i v i = v := if_pos rfl
theorem upd_ne {α : Type} (f : Int → α) {i j : Int} (v : α) (h : j ≠ i) : upd f i v j = f j := if_neg h

theorem filter_ne_of_notin {s : List Int} {id : Int} (h : id ∉ s) : s.filter (fun a => decide (a ≠ id)) = s := by
  rw [List.filter_eq_self]
  intro a ha
  simp only [ne_eq, decide_eq_true_eq]
  exact fun e => h (e ▸ ha)
theorem filter_ne_split {A B : List Int} {id : Int} (h : (A ++ id :: B).Nodup) : (A ++ id :: B).filter (fun a => decide (a ≠ id)) = A ++ B := by
  rw [List.nodup_append] at h
  obtain ⟨h1, h2, h3⟩ := h
  rw [List.nodup_cons] at h2
  rw [List.filter_append, List.filter_cons, filter_ne_of_notin (fun hm => h3 id hm id (by simp) rfl), filter_ne_of_notin h2.1]
  simp

theorem nodup_bound : ∀ (n : Nat) (s : List Int), s.Nodup → (∀ a ∈ s, 0 ≤ a ∧ a < n) → s.length ≤ n := by
  intro n
  induction n with
  | zero =>
    intro s _ h
    cases s with
    | nil => simp
    | cons a t => have := h a (by simp); omega
  | succ n ih =>
    intro s hn h
    by_cases hm : (n : Int) ∈ s
    · obtain ⟨A, B, rfl⟩ := List.append_of_mem hm
      have hn2 := hn
      have e := filter_ne_split hn
      have h1 : (A ++ B).Nodup := by rw [← e]; exact (List.filter_sublist (l := A ++ (n : Int) :: B)).nodup hn
      have := ih (A ++ B) h1 (fun a ha => by
        have hb : a ∈ A ++ (n : Int) :: B := by
          rcases List.mem_append.1 ha with g | g
          · exact List.mem_append_left _ g
          · exact List.mem_append_right _ (List.mem_cons_of_mem _ g)
        have h2 := h a hb
        have h3 : a ≠ n := fun e2 => by
          rw [← e] at ha
          have := (List.mem_filter.1 ha).2
          simp [e2] at this
        omega)
      simp only [List.length_append, List.length_cons] at this ⊢
      omega
    · have := ih s hn (fun a ha => by
        have h2 := h a ha
        have h3 : a ≠ n := fun e2 => hm (e2 ▸ ha)
        omega)
      omega

/-- A table of n rows of sz cells. -/
structure Tab (sz n : Nat) (row : Int → List Value) (c : Array Value) : Prop where
  size : n * sz ≤ c.size
  wide : ∀ i : Int, 0 ≤ i → i < n → (row i).length = sz
  cell : ∀ i : Int, 0 ≤ i → i < n → ∀ j, j < sz → c.toList[i.toNat * sz + j]? = (row i)[j]?

theorem tab_le {sz n : Nat} {i : Int} (h0 : 0 ≤ i) (h1 : i < n) : i.toNat * sz + sz ≤ n * sz := by
  rw [← Nat.succ_mul]; exact Nat.mul_le_mul_right _ (by omega)
theorem tab_apart {sz : Nat} {a b j k : Nat} (hj : j < sz) (hk : k < sz) (e : a * sz + j = b * sz + k) : a = b ∧ j = k := by
  rcases Nat.lt_trichotomy a b with h | h | h
  · have : a * sz + sz ≤ b * sz := by rw [← Nat.succ_mul]; exact Nat.mul_le_mul_right _ h
    omega
  · subst h; exact ⟨rfl, by omega⟩
  · have : b * sz + sz ≤ a * sz := by rw [← Nat.succ_mul]; exact Nat.mul_le_mul_right _ h
    omega

theorem Tab.get {sz n : Nat} {row : Int → List Value} {c : Array Value} (h : Tab sz n row c) {i : Int} (h0 : 0 ≤ i) (h1 : i < n) (j : Nat) {v : Value} (hv : (row i)[j]? = some v) : c.toList[0 + i.toNat * sz + j]? = some v := by
  have hj : j < sz := by
    have := (List.getElem?_eq_some_iff.1 hv).1
    rwa [h.wide i h0 h1] at this
  rw [Nat.zero_add, h.cell i h0 h1 j hj, hv]
theorem Tab.row {sz n : Nat} {row : Int → List Value} {c : Array Value} (h : Tab sz n row c) {i : Int} (h0 : 0 ≤ i) (h1 : i < n) : c.extract (0 + i.toNat * sz) (0 + i.toNat * sz + sz) = (row i).toArray := by
  have hs := h.size
  have hw := h.wide i h0 h1
  apply Array.ext'
  apply List.ext_getElem?
  intro j
  simp only [Array.toList_extract, List.extract_eq_take_drop]
  rw [List.getElem?_take, List.getElem?_drop, show 0 + i.toNat * sz + sz - (0 + i.toNat * sz) = sz by omega]
  by_cases hj : j < sz
  · rw [if_pos hj, Nat.zero_add]; exact h.cell i h0 h1 j hj
  · rw [if_neg hj, List.getElem?_eq_none (by omega)]
theorem Tab.rowIn {sz n : Nat} {row : Int → List Value} {c : Array Value} (h : Tab sz n row c) {i : Int} (h0 : 0 ≤ i) (h1 : i < n) : 0 + i.toNat * sz + sz ≤ c.size := by
  have := h.size
  have := tab_le (sz := sz) h0 h1
  omega
theorem Tab.cellIn {sz n : Nat} {row : Int → List Value} {c : Array Value} (h : Tab sz n row c) {i : Int} (h0 : 0 ≤ i) (h1 : i < n) {k j : Nat} (hk : k = i.toNat * sz + j) (hj : j + 1 ≤ sz) : k + 1 ≤ c.size := by
  have := h.rowIn h0 h1
  omega
theorem Tab.set {sz n : Nat} {row row' : Int → List Value} {c : Array Value} (h : Tab sz n row c) {i : Int} (h0 : 0 ≤ i) (h1 : i < n) (j : Nat) {k : Nat} {v : Value} (hj : j < sz) (hk : k = i.toNat * sz + j) (hi : row' i = (row i).set j v) (hr : ∀ u, u ≠ i → row' u = row u) : Tab sz n row' (wr c k [v]) := by
  have hs := h.size
  have hle := tab_le (sz := sz) h0 h1
  have hg : ∀ m, (wr c k [v]).toList[m]? = if m = k then some v else c.toList[m]? := fun m => by
    have := wr_get [v] c k m (by simp only [List.length_singleton]; omega)
    rw [Array.getElem?_toList, this]
    by_cases h : m = k
    · subst h; simp
    · rw [if_neg (by simp only [List.length_singleton]; omega), if_neg h, Array.getElem?_toList]
  refine ⟨by rw [wr_size]; exact hs, fun u g0 g1 => ?_, fun u g0 g1 m hm => ?_⟩
  · by_cases e : u = i
    · subst e; rw [hi, List.length_set]; exact h.wide u g0 g1
    · rw [hr u e]; exact h.wide u g0 g1
  · rw [hg]
    by_cases e : u = i
    · subst e
      rw [hi]
      by_cases e2 : m = j
      · subst e2; rw [if_pos hk.symm, List.getElem?_set_self (by rw [h.wide u g0 g1]; exact hj)]
      · rw [if_neg (by omega), List.getElem?_set_ne (Ne.symm e2)]; exact h.cell u g0 g1 m hm
    · rw [hr u e, if_neg fun e2 => e (by have := (tab_apart hm hj (e2.trans hk)).1; omega)]
      exact h.cell u g0 g1 m hm
theorem Tab.setRow {sz n : Nat} {row row' : Int → List Value} {c : Array Value} (h : Tab sz n row c) {i : Int} (h0 : 0 ≤ i) (h1 : i < n) {k : Nat} {vs : List Value} (hk : k = i.toNat * sz) (hl : vs.length = sz) (hi : row' i = vs) (hr : ∀ u, u ≠ i → row' u = row u) : Tab sz n row' (wr c k vs) := by
  have hs := h.size
  have hle := tab_le (sz := sz) h0 h1
  subst hk
  have hg : ∀ m, (wr c (i.toNat * sz) vs).toList[m]? = if i.toNat * sz ≤ m ∧ m < i.toNat * sz + vs.length then vs[m - i.toNat * sz]? else c.toList[m]? := fun m => by
    rw [Array.getElem?_toList, wr_get _ _ _ _ (by omega), ← Array.getElem?_toList (xs := c)]
  refine ⟨by rw [wr_size]; exact hs, fun u g0 g1 => ?_, fun u g0 g1 m hm => ?_⟩
  · by_cases e : u = i
    · subst e; rw [hi]; exact hl
    · rw [hr u e]; exact h.wide u g0 g1
  · rw [hg]
    by_cases e : u = i
    · subst e
      rw [hi, if_pos (by omega), show u.toNat * sz + m - u.toNat * sz = m by omega]
    · rw [hr u e, if_neg fun e2 => e ?_]
      · exact h.cell u g0 g1 m hm
      · have : u.toNat * sz + m = i.toNat * sz + (u.toNat * sz + m - i.toNat * sz) := by omega
        have := (tab_apart hm (by omega) this).1
        omega
theorem Tab.congr {sz n : Nat} {row row' : Int → List Value} {c : Array Value} (h : Tab sz n row c) (hr : ∀ i : Int, 0 ≤ i → i < n → row' i = row i) : Tab sz n row' c :=
  ⟨h.size, fun i a b => by rw [hr i a b]; exact h.wide i a b, fun i a b => by rw [hr i a b]; exact h.cell i a b⟩
/-- A table of all the same rows. -/
theorem Tab.zero {sz n : Nat} {z : Array Value} (hz : z.size = sz) (h0 : 0 < sz) {m : Nat} (hm : m = n * sz) : Tab sz n (fun _ => z.toList) ((Array.range m).map (z[· % z.size]!)) := by
  subst hm
  refine ⟨by simp, fun _ _ _ => by simpa using hz, fun i g0 g1 j hj => ?_⟩
  have hlt : i.toNat * sz + j < n * sz := by have := tab_le (sz := sz) g0 g1; omega
  have hmod : (i.toNat * sz + j) % sz = j := by rw [Nat.mul_comm, Nat.mul_add_mod]; exact Nat.mod_eq_of_lt hj
  have hjz : j < z.size := by omega
  rw [Array.getElem?_toList, Array.getElem?_map, Array.getElem?_range]
  simp only [hlt, if_true, Option.map_some, hz, hmod]
  simp [hjz]
/-- Rows told by a list. -/
theorem Tab.rows {α : Type} {f : α → List Value} {sz : Nat} (hf : ∀ x, (f x).length = sz) {l : List α} {c : Array Value} {m : Nat} (hm : m = l.length * sz) (hs : m ≤ c.size) (h : c.toList.take m = l.flatMap f) (d : α) : Tab sz l.length (fun i => f (l.getD i.toNat d)) c := by
  subst hm
  refine ⟨hs, fun i _ _ => hf _, fun i g0 g1 j hj => ?_⟩
  have hi : i.toNat < l.length := by omega
  have hlt : i.toNat * sz + j < l.length * sz := by have := tab_le (sz := sz) g0 g1; omega
  rw [Array.getElem?_toList, own_cell h hlt, rows_cell f sz hf l i.toNat j hi hj]
  simp [List.getD, hi]

theorem Tab.copy {sz n : Nat} {row : Int → List Value} {c c' : Array Value} (h : Tab sz n row c) (hs : n * sz ≤ c'.size) (he : c'.toList.take (n * sz) = c.toList.take (n * sz)) : Tab sz n row c' := by
  refine ⟨hs, h.wide, fun i g0 g1 j hj => ?_⟩
  have hlt : i.toNat * sz + j < n * sz := by have := tab_le (sz := sz) g0 g1; omega
  have : (c'.toList.take (n * sz))[i.toNat * sz + j]? = (c.toList.take (n * sz))[i.toNat * sz + j]? := by rw [he]
  rw [List.getElem?_take_of_lt hlt, List.getElem?_take_of_lt hlt] at this
  rw [this]; exact h.cell i g0 g1 j hj
theorem Tab.plain {sz n : Nat} {row : Int → List Value} {c : Array Value} (h : Tab sz n row c) (hp : ∀ i, (row i).all Value.plain = true) : (List.take (n * sz) (List.drop 0 c.toList)).all Value.plain = true := by
  rw [List.all_eq_true]
  intro x hx
  obtain ⟨k, hk, rfl⟩ := List.getElem_of_mem hx
  simp only [List.drop_zero, List.length_take] at hk
  have hsz : 0 < sz := by
    rcases Nat.eq_zero_or_pos sz with e | e
    · subst e; omega
    · exact e
  have hkn : k < n * sz := by omega
  obtain ⟨q, r, hq, hr, e⟩ : ∃ q r, q < n ∧ r < sz ∧ q * sz + r = k := ⟨k / sz, k % sz, Nat.div_lt_of_lt_mul (by rw [Nat.mul_comm]; exact hkn), Nat.mod_lt _ hsz, by rw [Nat.mul_comm, Nat.add_comm, Nat.mod_add_div]⟩
  have h3 := h.cell (q : Nat) (by omega) (by omega) r hr
  rw [Int.toNat_natCast, e] at h3
  have hl := h.wide (q : Nat) (by omega) (by omega)
  rw [List.getElem?_eq_getElem (show r < (row (q : Nat)).length by omega)] at h3
  have h4 : (List.take (n * sz) (List.drop 0 c.toList))[k]? = some ((row (q : Nat))[r]'(by omega)) := by
    rw [List.drop_zero, List.getElem?_take_of_lt hkn]; exact h3
  rw [List.getElem?_eq_getElem (by simp only [List.drop_zero, List.length_take]; omega)] at h4
  rw [Option.some.inj h4]
  exact List.all_eq_true.1 (hp _) _ (List.getElem_mem _)

/-- A block that holds a table. -/
def tabP (b T sz n : Nat) (row : Int → List Value) : HP := fun F => ∃ c, Tab sz n row c ∧ pt b (.cells c T (0, 0)) F
variable {oo : World}
theorem _root_.Go.Gx.Sat.tabOpen {w : World} {L : List HP} {b T sz n : Nat} {row : Int → List Value} (hS : Sat oo w L) (k : Nat) (hk : L[k]? = some (tabP b T sz n row)) : ∃ c, Tab sz n row c ∧ Sat oo w (L.set k (pt b (.cells c T (0, 0)))) := by
  obtain ⟨c, h⟩ := hS.ex k (q := fun c F => Tab sz n row c ∧ pt b (.cells c T (0, 0)) F) hk (fun F h => h)
  have hlt : k < L.length := (List.getElem?_eq_some_iff.1 hk).1
  have h1 := h.fact k (List.getElem?_set_self hlt) (fun F hF => hF.1)
  have h2 := h.imp k (List.getElem?_set_self hlt) (p' := pt b (.cells c T (0, 0))) (fun F hF => hF.2)
  rw [List.set_set] at h2
  exact ⟨c, h1, h2⟩
theorem _root_.Go.Gx.Sat.tabShut {w : World} {L : List HP} {b T sz n : Nat} {row : Int → List Value} {c : Array Value} (hS : Sat oo w L) (k : Nat) (hk : L[k]? = some (pt b (.cells c T (0, 0)))) (h : Tab sz n row c) : Sat oo w (L.set k (tabP b T sz n row)) :=
  hS.imp k hk fun F hF => ⟨c, h, hF⟩
end Go.Proofs

/- The place of an id in a list of ids; taking one out by its place. No condition; nothing of any program stands here. -/
namespace Go.Proofs
open Go Go.Gx

def ixFrom : List Int → Int → Int → Int
  | [], _, _ => -1
  | x :: xs, id, k => if x = id then k else ixFrom xs id (k + 1)
def ixOf (l : List Int) (id : Int) : Int := ixFrom l id 0

theorem ixFrom_spec (id : Int) : ∀ (l : List Int) (k : Int), (id ∉ l ∧ ixFrom l id k = -1) ∨ ∃ (i : Nat) (hi : i < l.length), ixFrom l id k = k + i ∧ l[i] = id ∧ ∀ j, (hj : j < i) → l[j] ≠ id := by
  intro l
  induction l with
  | nil => intro k; exact .inl ⟨by simp, rfl⟩
  | cons x l ih =>
    intro k
    simp only [ixFrom]
    by_cases h : x = id
    · rw [if_pos h]; exact .inr ⟨0, by simp, by simp, by simpa using h, fun j hj => by omega⟩
    · rw [if_neg h]
      rcases ih (k + 1) with ⟨h1, h2⟩ | ⟨i, hi, h1, h2, h3⟩
      · refine .inl ⟨?_, h2⟩
        simp only [List.mem_cons, not_or]
        exact ⟨fun e => h e.symm, h1⟩
      · refine .inr ⟨i + 1, by simp; omega, by omega, by simpa using h2, fun j hj => ?_⟩
        cases j with
        | zero => simpa using h
        | succ j => simpa using h3 j (by omega)
theorem ixOf_spec (l : List Int) (id : Int) : (id ∉ l ∧ ixOf l id = -1) ∨ ∃ (i : Nat) (hi : i < l.length), ixOf l id = i ∧ l[i] = id ∧ ∀ j, (hj : j < i) → l[j] ≠ id := by
  rcases ixFrom_spec id l 0 with h | ⟨i, hi, h1, h2⟩
  · exact .inl h
  · exact .inr ⟨i, hi, by unfold ixOf; omega, h2⟩
theorem ixOf_range (l : List Int) (id : Int) : -1 ≤ ixOf l id ∧ ixOf l id < l.length := by
  rcases ixOf_spec l id with ⟨_, h⟩ | ⟨i, hi, h, _⟩ <;> omega
theorem ixOf_mem {l : List Int} {id : Int} : 0 ≤ ixOf l id ↔ id ∈ l := by
  rcases ixOf_spec l id with ⟨h1, h2⟩ | ⟨i, hi, h1, h2, _⟩
  · rw [h2]; simp only [h1, iff_false]; omega
  · rw [h1]; constructor
    · intro _; rw [← h2]; exact List.getElem_mem _
    · intro _; omega
theorem ixOf_neg {l : List Int} {id : Int} : ixOf l id < 0 ↔ id ∉ l := by
  rw [← ixOf_mem]; omega
theorem ixOf_at {l : List Int} (h : l.Nodup) {i : Nat} (hi : i < l.length) : ixOf l l[i] = i := by
  rcases ixOf_spec l l[i] with ⟨h1, _⟩ | ⟨j, hj, h1, h2, _⟩
  · exact absurd (List.getElem_mem _) h1
  · have : j = i := nodup_inj h hj hi h2
    omega

theorem erase_filter {α : Type} {f : α → Int} {l : List α} (hn : (l.map f).Nodup) {id : Int} (h : id ∈ l.map f) : l.eraseIdx (ixOf (l.map f) id).toNat = l.filter fun x => decide (f x ≠ id) := by
  rcases ixOf_spec (l.map f) id with ⟨h1, h2⟩ | ⟨i, hi, h1, h2, _⟩
  · exact absurd h h1
  · rw [h1, Int.toNat_natCast]
    have hi' : i < l.length := by simpa using hi
    rw [List.eraseIdx_eq_take_drop_succ]
    have hl : l = l.take i ++ l[i] :: l.drop (i + 1) := by rw [← List.drop_eq_getElem_cons hi', List.take_append_drop]
    have hn' := hn
    rw [hl, List.map_append, List.map_cons, List.nodup_append, List.nodup_cons] at hn'
    obtain ⟨_, ⟨n1, _⟩, n2⟩ := hn'
    have h2' : f l[i] = id := by simpa using h2
    have hA : ∀ x ∈ l.take i, f x ≠ id := fun x hx e => n2 (f x) (List.mem_map.2 ⟨x, hx, rfl⟩) (f l[i]) (by simp) (e.trans h2'.symm)
    have hB : ∀ x ∈ l.drop (i + 1), f x ≠ id := fun x hx e => n1 (List.mem_map.2 ⟨x, hx, e.trans h2'.symm⟩)
    have : (l.filter fun x => decide (f x ≠ id)) = ((l.take i ++ l[i] :: l.drop (i + 1)).filter fun x => decide (f x ≠ id)) := by rw [← hl]
    rw [this, List.filter_append, List.filter_cons]
    simp only [h2', ne_eq, not_true, decide_false, Bool.false_eq_true, if_false]
    rw [List.filter_eq_self.2 (fun x hx => by simpa using hA x hx), List.filter_eq_self.2 (fun x hx => by simpa using hB x hx)]

/-- The slice that a loop fills, its rows told by a list. -/
abbrev ownR {α : Type} (v : Value) (T sz : Nat) (f : α → List Value) (l : List α) : HP := own v T sz l.length (l.flatMap f)
theorem ownR_snoc {α : Type} {v : Value} {T sz n : Nat} {f : α → List Value} {l : List α} {x : α} {cs : List Value} (hn : n = l.length + 1) (hc : cs = l.flatMap f ++ f x) : own v T sz n cs = ownR v T sz f (l ++ [x]) := by
  subst hn; subst hc
  simp [ownR]
theorem len_snoc {α : Type} (l : List α) (x : α) : (l ++ [x]).length = l.length + 1 := by simp
theorem flat_snoc {α : Type} (l : List α) (x : α) (f : α → List Value) : (l ++ [x]).flatMap f = l.flatMap f ++ f x := by simp
theorem rows_plain {α : Type} {f : α → List Value} (hf : ∀ x, (f x).all Value.plain = true) (l : List α) : (l.flatMap f).all Value.plain = true := by
  rw [List.all_flatMap, List.all_eq_true]
  intro x _
  exact hf x
/-- A cell of a row that a slice owns. -/
theorem row_cell {α : Type} {f : α → List Value} {sz : Nat} {c : Array Value} {l : List α} {m : Nat} (hf : ∀ x, (f x).length = sz) (h : c.toList.take m = l.flatMap f) (hm : m = l.length * sz) {i j : Nat} (hi : i < l.length) (hj : j < sz) {v : Value} (hv : (f l[i])[j]? = some v) {k : Nat} (hk : k = i * sz + j) : c.toList[k]? = some v := by
  subst hk
  have hlt : i * sz + j < m := by
    have : i * sz + sz ≤ l.length * sz := by rw [← Nat.succ_mul]; exact Nat.mul_le_mul_right _ hi
    omega
  rw [Array.getElem?_toList, own_cell h hlt, rows_cell f sz hf l i j hi hj, hv]
theorem row_cells {α : Type} {f : α → List Value} {sz : Nat} {c : Array Value} {l : List α} {m : Nat} (hf : ∀ x, (f x).length = sz) (h : c.toList.take m = l.flatMap f) (hm : m = l.length * sz) (hs : m ≤ c.size) {i : Nat} (hi : i < l.length) {k : Nat} (hk : k = i * sz) : c.extract k (k + sz) = (f l[i]).toArray := by
  subst hk
  have hle : i * sz + sz ≤ l.length * sz := by rw [← Nat.succ_mul]; exact Nat.mul_le_mul_right _ hi
  apply Array.ext'
  apply List.ext_getElem?
  intro j
  simp only [Array.toList_extract, List.extract_eq_take_drop]
  rw [List.getElem?_take, List.getElem?_drop, show i * sz + sz - i * sz = sz by omega]
  by_cases hj : j < sz
  · rw [if_pos hj, Array.getElem?_toList, own_cell h (by omega), rows_cell f sz hf l i j hi hj]
  · rw [if_neg hj, List.getElem?_eq_none (by rw [hf]; omega)]
end Go.Proofs

/- Keys and how urgent they are; lists of ids with keys in order. No program stands here. -/
namespace Go.Proofs
open Go Go.Gx

structure KKey where
  edf : Bool
  dl : Int
  lv : Int
deriving DecidableEq, Inhabited
def KKey.cells (k : KKey) : List Value := [.bool k.edf, .int .u64 k.dl, .int .u8 k.lv]
def KKey.val (k : KKey) : Value := .agg k.cells.toArray
/-- As its kinds allow. -/
def KKey.ok (k : KKey) : Prop := (0 ≤ k.dl ∧ k.dl ≤ 18446744073709551615) ∧ 0 ≤ k.lv ∧ k.lv ≤ 255
def KKey.none : KKey := ⟨false, 0, 0⟩
def kDead (d : Int) : KKey := ⟨true, d, 0⟩
def kFixed (v : Int) : KKey := ⟨false, 0, v⟩
def kRight (k : KKey) : Bool := if k.edf then decide (k.lv = 0) else decide (k.dl = 0)
def kAbove (a b : KKey) : Bool := if a.edf && b.edf then decide (a.dl < b.dl) else if a.edf || b.edf then a.edf else decide (a.lv > b.lv)

theorem kRight_iff {k : KKey} : kRight k = true ↔ k = kDead k.dl ∨ k = kFixed k.lv := by
  obtain ⟨e, d, v⟩ := k
  cases e <;> simp [kRight, kDead, kFixed]
theorem kAbove_irrefl (a : KKey) : kAbove a a = false := by
  obtain ⟨e, d, v⟩ := a
  cases e <;> simp [kAbove]
theorem kAbove_trans {a b c : KKey} (h : kAbove a b = true) (g : kAbove c b = false) : kAbove a c = true := by
  obtain ⟨e, d, v⟩ := a; obtain ⟨e', d', v'⟩ := b; obtain ⟨e'', d'', v''⟩ := c
  cases e <;> cases e' <;> cases e'' <;> simp [kAbove] at h g ⊢ <;> omega
/-- Not less urgent, and not less urgent again. -/
theorem kNot_trans {a b c : KKey} (h : kAbove b a = false) (g : kAbove c b = false) : kAbove c a = false := by
  cases hc : kAbove c a with
  | false => rfl
  | true =>
    have := kAbove_trans hc h
    rw [g] at this
    cases this
theorem kAbove_asymm {a b : KKey} (h : kAbove a b = true) : kAbove b a = false := by
  cases hb : kAbove b a with
  | false => rfl
  | true =>
    have := kAbove_trans h (kAbove_irrefl b)
    obtain ⟨e, d, v⟩ := a; obtain ⟨e', d', v'⟩ := b
    cases e <;> cases e' <;> simp [kAbove] at h hb <;> omega
/-- The class of a key: deadlines first, then the levels from above. -/
def kClass (k : KKey) : Int := if k.edf then 0 else 256 - k.lv
theorem kClass_le {a b : KKey} (ha : a.ok) (hb : b.ok) (h : kAbove b a = false) : kClass a ≤ kClass b := by
  obtain ⟨e, d, v⟩ := a; obtain ⟨e', d', v'⟩ := b
  obtain ⟨_, h0, h1⟩ := ha
  obtain ⟨_, g0, g1⟩ := hb
  cases e <;> cases e' <;> simp [kAbove, kClass] at h h0 h1 g0 g1 ⊢ <;> omega

structure KItem where
  id : Int
  k : KKey
deriving Inhabited
def KItem.cells (x : KItem) : List Value := [.int .i64 x.id, .bool x.k.edf, .int .u64 x.k.dl, .int .u8 x.k.lv]
def kIds (l : List KItem) : List Int := l.map KItem.id
def KSorted (l : List KItem) : Prop := l.Pairwise fun a b => kAbove b.k a.k = false

/-- One more, behind those that are as urgent. -/
def kput (x : KItem) : List KItem → List KItem
  | [] => [x]
  | y :: t => if kAbove x.k y.k then x :: y :: t else y :: kput x t
def kout (l : List KItem) (id : Int) : List KItem := l.filter fun x => decide (x.id ≠ id)
theorem kput_perm (x : KItem) : ∀ l, (kput x l).Perm (x :: l)
  | [] => List.Perm.refl _
  | y :: t => by
    unfold kput; split
    · exact List.Perm.refl _
    · exact ((kput_perm x t).cons y).trans (List.Perm.swap x y t)
theorem kput_len (x : KItem) (l : List KItem) : (kput x l).length = l.length + 1 := (kput_perm x l).length_eq
theorem kput_sorted (x : KItem) : ∀ l, KSorted l → KSorted (kput x l)
  | [], _ => by simp [kput, KSorted]
  | y :: t, h => by
    obtain ⟨h1, h2⟩ := List.pairwise_cons.1 h
    unfold kput; split
    · rename_i hlt
      refine List.pairwise_cons.2 ⟨fun z hz => ?_, h⟩
      rcases List.mem_cons.1 hz with rfl | hz
      · exact kAbove_asymm hlt
      · exact kAbove_asymm (kAbove_trans hlt (h1 z hz))
    · rename_i hlt
      refine List.pairwise_cons.2 ⟨fun z hz => ?_, kput_sorted x t h2⟩
      rcases List.mem_cons.1 ((kput_perm x t).mem_iff.1 hz) with rfl | hz
      · simpa using hlt
      · exact h1 z hz
/-- All that are less urgent stand behind. -/
theorem kput_front {x : KItem} : ∀ {l : List KItem}, (∀ y ∈ l, kAbove x.k y.k = true) → kput x l = x :: l
  | [], _ => rfl
  | y :: t, h => by rw [kput, if_pos (h y (by simp))]
theorem kput_back {x : KItem} : ∀ {l : List KItem}, (∀ y ∈ l, kAbove x.k y.k = false) → kput x l = l ++ [x]
  | [], _ => rfl
  | y :: t, h => by
    rw [kput, if_neg (by simp [h y])]
    rw [kput_back fun z hz => h z (by simp [hz])]; rfl
theorem kput_filter_in {x : KItem} {p : KItem → Bool} (hx : p x = true) : ∀ {l : List KItem}, KSorted l → (kput x l).filter p = kput x (l.filter p)
  | [], _ => by simp [kput, hx]
  | y :: t, h => by
    obtain ⟨h1, h2⟩ := List.pairwise_cons.1 h
    by_cases hlt : kAbove x.k y.k = true
    · rw [kput, if_pos hlt, List.filter_cons, if_pos hx]
      symm
      apply kput_front
      intro z hz
      have hz := (List.mem_filter.1 hz).1
      rcases List.mem_cons.1 hz with rfl | hz
      · exact hlt
      · exact kAbove_trans hlt (h1 z hz)
    · rw [kput, if_neg hlt, List.filter_cons, List.filter_cons]
      have ih := kput_filter_in hx h2
      split
      · rw [ih, kput, if_neg hlt]
      · exact ih
theorem kput_filter_out {x : KItem} {p : KItem → Bool} (hx : p x = false) : ∀ (l : List KItem), (kput x l).filter p = l.filter p
  | [] => by simp [kput, hx]
  | y :: t => by
    unfold kput; split
    · rw [List.filter_cons, if_neg (by simp [hx])]
    · rw [List.filter_cons, List.filter_cons, kput_filter_out hx t]
theorem kput_out {x : KItem} : ∀ {l : List KItem}, x.id ∉ kIds l → kout (kput x l) x.id = l
  | [], _ => by simp [kput, kout]
  | y :: t, h => by
    simp only [kIds, List.map_cons, List.mem_cons, not_or] at h
    have hy : decide (y.id ≠ x.id) = true := decide_eq_true fun e => h.1 e.symm
    have hno : ∀ (m : List KItem), x.id ∉ m.map KItem.id → m.filter (fun z => decide (z.id ≠ x.id)) = m := fun m hm => by
      rw [List.filter_eq_self]
      intro z hz
      exact decide_eq_true fun e => hm (List.mem_map.2 ⟨z, hz, e⟩)
    unfold kput; split
    · rw [kout, List.filter_cons, if_neg (by simp)]
      exact hno _ (by simp only [List.map_cons, List.mem_cons, not_or]; exact h)
    · rw [kout, List.filter_cons, if_pos hy]
      exact congrArg (y :: ·) (kput_out h.2)

theorem kout_ids (l : List KItem) (id : Int) : kIds (kout l id) = (kIds l).filter fun i => decide (i ≠ id) := by
  unfold kIds kout
  rw [List.filter_map]; rfl
theorem mem_kout {l : List KItem} {id : Int} {x : KItem} : x ∈ kout l id ↔ x ∈ l ∧ x.id ≠ id := by simp [kout]
theorem mem_kout_ids {l : List KItem} {id i : Int} : i ∈ kIds (kout l id) ↔ i ∈ kIds l ∧ i ≠ id := by rw [kout_ids]; simp
theorem kout_not {l : List KItem} {id : Int} (h : id ∉ kIds l) : kout l id = l := by
  unfold kout
  rw [List.filter_eq_self]
  intro x hx
  exact decide_eq_true fun e => h (List.mem_map.2 ⟨x, hx, e⟩)
theorem kout_sorted {l : List KItem} (h : KSorted l) (id : Int) : KSorted (kout l id) := h.filter _
theorem kout_nodup {l : List KItem} (h : (kIds l).Nodup) (id : Int) : (kIds (kout l id)).Nodup := by rw [kout_ids]; exact h.filter _
theorem kout_head {x : KItem} {l : List KItem} (hn : (kIds (x :: l)).Nodup) : kout (x :: l) x.id = l := by
  simp only [kIds, List.map_cons, List.nodup_cons] at hn
  rw [kout, List.filter_cons, if_neg (by simp)]
  exact kout_not hn.1
theorem kout_erase {l : List KItem} (hn : (kIds l).Nodup) {id : Int} (h : id ∈ kIds l) : l.eraseIdx (ixOf (kIds l) id).toNat = kout l id := erase_filter hn h
theorem kid_inj {l : List KItem} (h : (kIds l).Nodup) {x y : KItem} (hx : x ∈ l) (hy : y ∈ l) (e : x.id = y.id) : x = y := by
  obtain ⟨i, hi, rfl⟩ := List.getElem_of_mem hx
  obtain ⟨j, hj, rfl⟩ := List.getElem_of_mem hy
  have : i = j := nodup_inj h (by simpa [kIds] using hi) (by simpa [kIds] using hj) (by simpa [kIds] using e)
  subst this
  rfl
theorem kout_len {l : List KItem} {id : Int} (h : (kIds l).Nodup) (hm : id ∈ kIds l) : (kout l id).length + 1 = l.length := by
  have h1 : (l.eraseIdx (ixOf (kIds l) id).toNat).length = l.length - 1 := by
    rw [List.length_eraseIdx, if_pos]
    have := ixOf_range (kIds l) id
    have h2 := ixOf_mem.2 hm
    simp only [kIds, List.length_map] at this h2 ⊢
    omega
  rw [kout_erase h hm] at h1
  have : 0 < l.length := by
    obtain ⟨x, hx, _⟩ := List.mem_map.1 hm
    exact List.length_pos_of_mem hx
  omega

/-- A list that is sorted by classes is its classes, one behind the other. -/
theorem classes_upto {l : List KItem} {c : KItem → Int} (hs : l.Pairwise fun a b => c a ≤ c b) (h0 : ∀ x ∈ l, 0 ≤ c x) : ∀ (N : Nat), l.filter (fun x => decide (c x < N)) = (List.range N).flatMap fun (j : Nat) => l.filter fun x => decide (c x = j)
  | 0 => by
    rw [List.range_zero, List.flatMap_nil, List.filter_eq_nil_iff]
    intro x hx
    have := h0 x hx
    simp; omega
  | N + 1 => by
    rw [List.range_succ, List.flatMap_append, ← classes_upto hs h0 N, List.flatMap_cons, List.flatMap_nil, List.append_nil]
    clear h0
    induction l with
    | nil => rfl
    | cons x l ih =>
      obtain ⟨h1, h2⟩ := List.pairwise_cons.1 hs
      have ih := ih h2
      rcases Int.lt_trichotomy (c x) N with h | h | h
      · have a : decide (c x < ((N + 1 : Nat) : Int)) = true := decide_eq_true (by omega)
        have b : decide (c x < (N : Int)) = true := decide_eq_true h
        have d : decide (c x = (N : Int)) = false := decide_eq_false (by omega)
        rw [List.filter_cons, if_pos a, List.filter_cons, if_pos b, List.filter_cons, if_neg (by simp [d]), ih]; rfl
      · have a : decide (c x < ((N + 1 : Nat) : Int)) = true := decide_eq_true (by omega)
        have b : decide (c x < (N : Int)) = false := decide_eq_false (by omega)
        have d : decide (c x = (N : Int)) = true := decide_eq_true h
        have e : l.filter (fun x => decide (c x < (N : Int))) = [] := by
          rw [List.filter_eq_nil_iff]
          intro y hy
          have := h1 y hy
          simp; omega
        rw [e, List.nil_append] at ih
        rw [List.filter_cons, if_pos a, List.filter_cons, if_neg (by simp [b]), e, List.filter_cons, if_pos d, List.nil_append, ih]
      · have a : decide (c x < ((N + 1 : Nat) : Int)) = false := decide_eq_false (by omega)
        have b : decide (c x < (N : Int)) = false := decide_eq_false (by omega)
        have d : decide (c x = (N : Int)) = false := decide_eq_false (by omega)
        rw [List.filter_cons, if_neg (by rw [a]; exact Bool.false_ne_true), List.filter_cons, if_neg (by rw [b]; exact Bool.false_ne_true), List.filter_cons, if_neg (by rw [d]; exact Bool.false_ne_true), ih]

/-! ### what is told of a list -/
def kErr (l : List KItem) (n : Nat) (id : Int) (right t : Bool) : Int := if id < 0 ∨ id ≥ n ∨ right = false then 2 else if t = true ∧ id ∉ kIds l then 6 else if t = false ∧ id ∈ kIds l then 5 else 0
theorem kErr_range {l : List KItem} {n : Nat} {id : Int} {r t : Bool} (h : id < 0 ∨ id ≥ n ∨ r = false) : kErr l n id r t = 2 := if_pos h
theorem kErr_none {l : List KItem} {n : Nat} {id : Int} {r : Bool} (h : ¬ (id < 0 ∨ id ≥ n ∨ r = false)) (h2 : id ∉ kIds l) : kErr l n id r true = 6 := by
  rw [kErr, if_neg h, if_pos ⟨rfl, h2⟩]
theorem kErr_known {l : List KItem} {n : Nat} {id : Int} {r : Bool} (h : ¬ (id < 0 ∨ id ≥ n ∨ r = false)) (h2 : id ∈ kIds l) : kErr l n id r false = 5 := by
  rw [kErr, if_neg h, if_neg (fun e => by cases e.1), if_pos ⟨rfl, h2⟩]
theorem kErr_ok1 {l : List KItem} {n : Nat} {id : Int} {r : Bool} (h : ¬ (id < 0 ∨ id ≥ n ∨ r = false)) (h2 : id ∈ kIds l) : kErr l n id r true = 0 := by
  rw [kErr, if_neg h, if_neg (fun e => e.2 h2), if_neg (fun e => by cases e.1)]
theorem kErr_ok0 {l : List KItem} {n : Nat} {id : Int} {r : Bool} (h : ¬ (id < 0 ∨ id ≥ n ∨ r = false)) (h2 : id ∉ kIds l) : kErr l n id r false = 0 := by
  rw [kErr, if_neg h, if_neg (fun e => by cases e.1), if_neg (fun e => h2 e.2)]
theorem kErr_is0 {l : List KItem} {n : Nat} {id : Int} {r : Bool} (h : kErr l n id r false = 0) : (0 ≤ id ∧ id < n) ∧ r = true ∧ id ∉ kIds l := by
  by_cases h1 : id < 0 ∨ id ≥ n ∨ r = false
  · rw [kErr_range h1] at h; cases h
  · by_cases h2 : id ∈ kIds l
    · rw [kErr_known h1 h2] at h; cases h
    · exact ⟨by omega, by simpa using fun e => h1 (.inr (.inr e)), h2⟩
theorem kErr_is1 {l : List KItem} {n : Nat} {id : Int} {r : Bool} (h : kErr l n id r true = 0) : (0 ≤ id ∧ id < n) ∧ r = true ∧ id ∈ kIds l := by
  by_cases h1 : id < 0 ∨ id ≥ n ∨ r = false
  · rw [kErr_range h1] at h; cases h
  · by_cases h2 : id ∈ kIds l
    · exact ⟨by omega, by simpa using fun e => h1 (.inr (.inr e)), h2⟩
    · rw [kErr_none h1 h2] at h; cases h

def kGet? (l : List KItem) (id : Int) : Option KItem := l.find? fun x => decide (x.id = id)
def kGetK (l : List KItem) (id : Int) : KKey := ((kGet? l id).map KItem.k).getD KKey.none
def kGetOk (l : List KItem) (id : Int) : Bool := decide (id ∈ kIds l)
theorem kGet?_none {l : List KItem} {id : Int} (h : id ∉ kIds l) : kGet? l id = none := by
  unfold kGet?
  rw [List.find?_eq_none]
  intro x hx e
  exact h (List.mem_map.2 ⟨x, hx, by simpa using e⟩)
theorem kGet?_some {l : List KItem} (hn : (kIds l).Nodup) {x : KItem} (hx : x ∈ l) : kGet? l x.id = some x := by
  unfold kGet?
  rw [List.find?_eq_some_iff_getElem]
  obtain ⟨i, hi, rfl⟩ := List.getElem_of_mem hx
  refine ⟨by simp, i, hi, rfl, fun j hj => ?_⟩
  simp only [Bool.not_eq_eq_eq_not, Bool.not_true, decide_eq_false_iff_not]
  intro e
  have := nodup_inj hn (i := j) (j := i) (by simp [kIds]; omega) (by simpa [kIds] using hi) (by simpa [kIds] using e)
  omega
theorem kGetK_none {l : List KItem} {id : Int} (h : id ∉ kIds l) : kGetK l id = KKey.none ∧ kGetOk l id = false := by simp [kGetK, kGetOk, kGet?_none h, h]
theorem kGetK_some {l : List KItem} (hn : (kIds l).Nodup) {x : KItem} (hx : x ∈ l) : kGetK l x.id = x.k ∧ kGetOk l x.id = true := by
  have : x.id ∈ kIds l := List.mem_map.2 ⟨x, hx, rfl⟩
  simp [kGetK, kGetOk, kGet?_some hn hx, this]

/-- The error of a Put, and what it leaves. -/
def kPutErr (l : List KItem) (n : Nat) (most : Int) (id : Int) (k : KKey) : Int := if kErr l n id (kRight k) false = 0 then (if (l.length : Int) ≥ most then 4 else 0) else kErr l n id (kRight k) false
def kPut (l : List KItem) (n : Nat) (most : Int) (id : Int) (k : KKey) : List KItem := if kPutErr l n most id k = 0 then kput ⟨id, k⟩ l else l
def kChg (l : List KItem) (n : Nat) (id : Int) (k : KKey) : List KItem := if kErr l n id (kRight k) true = 0 ∧ kGetK l id ≠ k then kput ⟨id, k⟩ (kout l id) else l
def kRem (l : List KItem) (n : Nat) (id : Int) : List KItem := if kErr l n id true true = 0 then kout l id else l
def kTopId (l : List KItem) : Int := (l.head?.map KItem.id).getD 0
def kTopK (l : List KItem) : KKey := (l.head?.map KItem.k).getD KKey.none
def kTopOk (l : List KItem) : Bool := !l.isEmpty

/-- A list as a set of n ids has it. -/
structure KOk (n : Nat) (l : List KItem) : Prop where
  nodup : (kIds l).Nodup
  sorted : KSorted l
  range : ∀ x ∈ l, 0 ≤ x.id ∧ x.id < n
  right : ∀ x ∈ l, kRight x.k = true
  ok : ∀ x ∈ l, x.k.ok
theorem KOk.lenLe {n : Nat} {l : List KItem} (h : KOk n l) : l.length ≤ n := by
  have := nodup_bound n (kIds l) h.nodup (fun a ha => by
    obtain ⟨x, hx, rfl⟩ := List.mem_map.1 ha
    exact h.range x hx)
  simpa [kIds] using this
theorem KOk.nil {n : Nat} : KOk n [] := ⟨by simp [kIds], List.Pairwise.nil, by simp, by simp, by simp⟩
theorem KOk.put {n : Nat} {l : List KItem} (h : KOk n l) {x : KItem} (h0 : 0 ≤ x.id ∧ x.id < n) (hr : kRight x.k = true) (ho : x.k.ok) (hx : x.id ∉ kIds l) : KOk n (kput x l) := by
  have hp := kput_perm x l
  have hids : (kIds (kput x l)).Perm (x.id :: kIds l) := hp.map KItem.id
  refine ⟨hids.nodup_iff.2 (List.nodup_cons.2 ⟨hx, h.nodup⟩), kput_sorted x l h.sorted, fun y hy => ?_, fun y hy => ?_, fun y hy => ?_⟩
  · rcases List.mem_cons.1 (hp.mem_iff.1 hy) with rfl | hy
    · exact h0
    · exact h.range y hy
  · rcases List.mem_cons.1 (hp.mem_iff.1 hy) with rfl | hy
    · exact hr
    · exact h.right y hy
  · rcases List.mem_cons.1 (hp.mem_iff.1 hy) with rfl | hy
    · exact ho
    · exact h.ok y hy
theorem KOk.out {n : Nat} {l : List KItem} (h : KOk n l) (id : Int) : KOk n (kout l id) :=
  ⟨kout_nodup h.nodup id, kout_sorted h.sorted id, fun y hy => h.range y (mem_kout.1 hy).1, fun y hy => h.right y (mem_kout.1 hy).1, fun y hy => h.ok y (mem_kout.1 hy).1⟩
theorem KOk.tail {n : Nat} {l : List KItem} (h : KOk n l) : KOk n l.tail := by
  cases l with
  | nil => exact h
  | cons x l => rw [List.tail_cons, ← kout_head h.nodup]; exact h.out _
theorem KOk.put' {n : Nat} {l : List KItem} (h : KOk n l) {most id : Int} {k : KKey} (ho : k.ok) : KOk n (kPut l n most id k) := by
  unfold kPut; split
  · rename_i h1
    unfold kPutErr at h1
    split at h1
    · obtain ⟨a, b, c⟩ := kErr_is0 (by assumption); exact h.put a b ho c
    · exact absurd h1 (by assumption)
  · exact h
theorem KOk.chg {n : Nat} {l : List KItem} (h : KOk n l) {id : Int} {k : KKey} (ho : k.ok) : KOk n (kChg l n id k) := by
  unfold kChg; split
  · rename_i h1
    obtain ⟨a, b, c⟩ := kErr_is1 h1.1; exact (h.out _).put a b ho (by rw [mem_kout_ids]; simp)
  · exact h
theorem KOk.rem {n : Nat} {l : List KItem} (h : KOk n l) (id : Int) : KOk n (kRem l n id) := by
  unfold kRem; split
  · exact h.out _
  · exact h
end Go.Proofs

/- What stands at all processors: lists of keys in a row, an id at one place at most. No program stands here. -/
namespace Go.Proofs
open Go Go.Gx

/-- The first place where an id stands, from a place on. -/
def pwFrom (L : List (List KItem)) (id : Int) (k : Nat) : Option Nat := match L with
  | [] => none
  | l :: t => if id ∈ kIds l then some k else pwFrom t id (k + 1)
def pw (L : List (List KItem)) (id : Int) : Option Nat := pwFrom L id 0
def pwAt (L : List (List KItem)) (id : Int) : Int := match pw L id with
  | some i => i
  | none => 0
def pwOk (L : List (List KItem)) (id : Int) : Bool := (pw L id).isSome

theorem pwFrom_spec (id : Int) : ∀ (L : List (List KItem)) (k : Nat), (pwFrom L id k = none ∧ ∀ l ∈ L, id ∉ kIds l) ∨ ∃ (i : Nat) (hi : i < L.length), pwFrom L id k = some (k + i) ∧ id ∈ kIds L[i] ∧ ∀ (j : Nat) (hj : j < L.length), j < i → id ∉ kIds L[j]
  | [], _ => .inl ⟨rfl, by simp⟩
  | l :: t, k => by
    unfold pwFrom
    by_cases h : id ∈ kIds l
    · rw [if_pos h]
      exact .inr ⟨0, by simp, rfl, h, fun j _ hj => by omega⟩
    · rw [if_neg h]
      rcases pwFrom_spec id t (k + 1) with ⟨h1, h2⟩ | ⟨i, hi, h1, h2, h3⟩
      · refine .inl ⟨h1, fun m hm => ?_⟩
        rcases List.mem_cons.1 hm with rfl | hm
        · exact h
        · exact h2 m hm
      · refine .inr ⟨i + 1, by simp; omega, by rw [h1]; congr 1; omega, h2, fun j hj hji => ?_⟩
        cases j with
        | zero => exact h
        | succ j => exact h3 j (by simpa using hj) (by omega)
theorem pw_spec (L : List (List KItem)) (id : Int) : (pw L id = none ∧ ∀ l ∈ L, id ∉ kIds l) ∨ ∃ (i : Nat) (hi : i < L.length), pw L id = some i ∧ id ∈ kIds L[i] ∧ ∀ (j : Nat) (hj : j < L.length), j < i → id ∉ kIds L[j] := by
  rcases pwFrom_spec id L 0 with h | ⟨i, hi, h1, h2⟩
  · exact .inl h
  · exact .inr ⟨i, hi, by rw [pw, h1, Nat.zero_add], h2⟩

/-- The places of np processors, and of all, with nt ids. -/
structure PrOk (np nt : Nat) (L : List (List KItem)) : Prop where
  len : L.length = np + 1
  each : ∀ l ∈ L, KOk nt l
  apart : ∀ (i j : Nat) (hi : i < L.length) (hj : j < L.length) (id : Int), id ∈ kIds L[i] → id ∈ kIds L[j] → i = j

variable {np nt : Nat} {L : List (List KItem)}
theorem PrOk.at (h : PrOk np nt L) {i : Nat} (hi : i < L.length) : KOk nt L[i] := h.each _ (List.getElem_mem hi)
theorem PrOk.empty : PrOk np nt (List.replicate (np + 1) []) := ⟨by simp, fun l hl => by rw [List.eq_of_mem_replicate hl]; exact KOk.nil, fun i j hi hj id h => by simp [kIds] at h⟩
theorem PrOk.pw_some (h : PrOk np nt L) {i : Nat} (hi : i < L.length) {id : Int} (hm : id ∈ kIds L[i]) : pw L id = some i := by
  rcases pw_spec L id with ⟨_, h2⟩ | ⟨j, hj, h1, h2, _⟩
  · exact absurd hm (h2 _ (List.getElem_mem hi))
  · rw [h1, h.apart j i hj hi id h2 hm]
theorem KOk.room {n : Nat} {l : List KItem} (h : KOk n l) {id : Int} (h0 : 0 ≤ id ∧ id < n) (hm : id ∉ kIds l) : l.length < n := by
  have := (h.put (x := ⟨id, KKey.none⟩) h0 rfl (show KKey.none.ok from ⟨by decide, by decide⟩) hm).lenLe
  rw [kput_len] at this
  omega
/-- One place changes; what is new there stands nowhere else. -/
theorem PrOk.set (h : PrOk np nt L) {i : Nat} (hi : i < L.length) {l : List KItem} (hl : KOk nt l) (hn : ∀ id ∈ kIds l, id ∈ kIds L[i] ∨ ∀ l' ∈ L, id ∉ kIds l') : PrOk np nt (L.set i l) := by
  refine ⟨by rw [List.length_set]; exact h.len, fun m hm => ?_, fun a b ha hb id h1 h2 => ?_⟩
  · rcases List.mem_or_eq_of_mem_set hm with hm | rfl
    · exact h.each m hm
    · exact hl
  · rw [List.length_set] at ha hb
    rw [List.getElem_set] at h1 h2
    by_cases ea : i = a
    · subst ea
      by_cases eb : i = b
      · exact eb
      · rw [if_pos rfl] at h1
        rw [if_neg eb] at h2
        rcases hn id h1 with g | g
        · exact h.apart i b hi hb id g h2
        · exact absurd h2 (g _ (List.getElem_mem hb))
    · rw [if_neg ea] at h1
      by_cases eb : i = b
      · subst eb
        rw [if_pos rfl] at h2
        rcases hn id h2 with g | g
        · exact h.apart a i ha hi id h1 g
        · exact absurd h1 (g _ (List.getElem_mem ha))
      · rw [if_neg eb] at h2
        exact h.apart a b ha hb id h1 h2

/-! ### what is told of them -/
def prErr (L : List (List KItem)) (nt : Nat) (id : Int) (right t : Bool) : Int := if id < 0 ∨ id ≥ nt ∨ right = false then 2 else if t = true ∧ pwOk L id = false then 6 else if t = false ∧ pwOk L id = true then 5 else 0
def prIs (np : Nat) (proc : Int) : Bool := decide (0 ≤ proc) && decide (proc < np)
def prTo (L : List (List KItem)) (np : Nat) (queue : Int) (proc : Int) : Nat := if ((L.getD proc.toNat []).length : Int) ≥ queue then np else proc.toNat
def prPutErr (L : List (List KItem)) (np nt : Nat) (proc id : Int) (k : KKey) : Int := prErr L nt id (prIs np proc && kRight k) false
def prUpd (L : List (List KItem)) (i : Nat) (f : List KItem → List KItem) : List (List KItem) := L.set i (f (L.getD i []))
def prPut (L : List (List KItem)) (np nt : Nat) (queue proc id : Int) (k : KKey) : List (List KItem) := if prPutErr L np nt proc id k = 0 then prUpd L (prTo L np queue proc) (kput ⟨id, k⟩) else L
def prChg (L : List (List KItem)) (nt : Nat) (id : Int) (k : KKey) : List (List KItem) := if prErr L nt id (kRight k) true = 0 then prUpd L (pwAt L id).toNat (fun l => kChg l nt id k) else L
def prRem (L : List (List KItem)) (nt : Nat) (id : Int) : List (List KItem) := if prErr L nt id true true = 0 then prUpd L (pwAt L id).toNat (fun l => kout l id) else L
theorem pwOk_iff {id : Int} : pwOk L id = true ↔ ∃ l ∈ L, id ∈ kIds l := by
  unfold pwOk
  rcases pw_spec L id with ⟨h1, h2⟩ | ⟨i, hi, h1, h2, _⟩
  · rw [h1]
    simp only [Option.isSome_none, Bool.false_eq_true, false_iff, not_exists, not_and]
    exact h2
  · rw [h1]
    simp only [Option.isSome_some, true_iff]
    exact ⟨_, List.getElem_mem hi, h2⟩
theorem PrOk.put (h : PrOk np nt L) (queue : Int) {proc id : Int} {k : KKey} (ho : k.ok) : PrOk np nt (prPut L np nt queue proc id k) := by
  unfold prPut; split
  · rename_i he
    unfold prPutErr prErr at he
    split at he
    · cases he
    · rename_i h1
      split at he
      · cases he
      · split at he
        · cases he
        · rename_i h2 h3
          have hno : ∀ l ∈ L, id ∉ kIds l := fun l hl hm => h3 ⟨rfl, pwOk_iff.2 ⟨l, hl, hm⟩⟩
          have hri : (prIs np proc && kRight k) = true := by simpa using fun e => h1 (.inr (.inr e))
          simp only [prIs, Bool.and_eq_true, decide_eq_true_eq] at hri
          have hto : prTo L np queue proc < L.length := by
            rw [h.len]; unfold prTo; split <;> omega
          unfold prUpd
          rw [List.getD_eq_getElem?_getD, List.getElem?_eq_getElem hto, Option.getD_some]
          have h01 : ¬ id < 0 := fun e => h1 (.inl e)
          have h02 : ¬ id ≥ nt := fun e => h1 (.inr (.inl e))
          refine h.set hto ((h.at hto).put (x := ⟨id, k⟩) (by show 0 ≤ id ∧ id < nt; omega) hri.2 ho (hno _ (List.getElem_mem hto))) fun a ha => ?_
          rcases List.mem_map.1 ha with ⟨y, hy, rfl⟩
          rcases List.mem_cons.1 ((kput_perm _ _).mem_iff.1 hy) with rfl | hy
          · exact .inr hno
          · exact .inl (List.mem_map.2 ⟨y, hy, rfl⟩)
  · exact h
theorem kChg_ids {l : List KItem} {n : Nat} (hn : (kIds l).Nodup) {id : Int} {k : KKey} {a : Int} (h : a ∈ kIds (kChg l n id k)) : a ∈ kIds l := by
  unfold kChg at h
  split at h
  · rename_i he
    obtain ⟨_, _, hm⟩ := kErr_is1 he.1
    obtain ⟨y, hy, rfl⟩ := List.mem_map.1 h
    rcases List.mem_cons.1 ((kput_perm _ _).mem_iff.1 hy) with rfl | hy
    · exact hm
    · exact List.mem_map.2 ⟨y, (mem_kout.1 hy).1, rfl⟩
  · exact h
theorem PrOk.upd (h : PrOk np nt L) {i : Nat} {f : List KItem → List KItem} (hf : ∀ l, KOk nt l → KOk nt (f l)) (hi : ∀ l, KOk nt l → ∀ a ∈ kIds (f l), a ∈ kIds l) : PrOk np nt (prUpd L i f) := by
  unfold prUpd
  by_cases hlt : i < L.length
  · rw [List.getD_eq_getElem?_getD, List.getElem?_eq_getElem hlt, Option.getD_some]
    exact h.set hlt (hf _ (h.at hlt)) fun a ha => .inl (hi _ (h.at hlt) a ha)
  · rw [List.set_eq_of_length_le (by omega)]; exact h
theorem PrOk.chg (h : PrOk np nt L) {id : Int} {k : KKey} (ho : k.ok) : PrOk np nt (prChg L nt id k) := by
  unfold prChg; split
  · exact h.upd (fun l hl => hl.chg ho) fun l hl a ha => kChg_ids hl.nodup ha
  · exact h
theorem PrOk.rem (h : PrOk np nt L) (id : Int) : PrOk np nt (prRem L nt id) := by
  unfold prRem; split
  · exact h.upd (fun l hl => hl.out id) fun l hl a ha => (mem_kout_ids.1 ha).1
  · exact h
end Go.Proofs

/- Maps with whole numbers as keys, told by lists of pairs: making, looking up, setting, deleting, clearing, ranging. No condition; nothing of any program stands here. -/
namespace Go.Gx
open Go Go.MapKept
variable {oo : World}

def mget (es : List (Int × Value)) (i : Int) : Option Value := (es.find? fun p => decide (p.1 = i)).map (·.2)
def mkeys (es : List (Int × Value)) : List Int := es.map (·.1)
def mset (es : List (Int × Value)) (i : Int) (v : Value) : List (Int × Value) := if i ∈ mkeys es then es.map fun p => if p.1 = i then (i, v) else p else es ++ [(i, v)]
def mdel (es : List (Int × Value)) (i : Int) : List (Int × Value) := es.filter fun p => decide (p.1 ≠ i)

theorem mget_none {es : List (Int × Value)} {i : Int} : mget es i = none ↔ i ∉ mkeys es := by
  unfold mget mkeys
  rw [Option.map_eq_none_iff, List.find?_eq_none]
  simp only [decide_eq_true_eq, List.mem_map, not_exists, not_and]
theorem mget_at {es : List (Int × Value)} (hn : (mkeys es).Nodup) {j : Nat} (hj : j < es.length) : mget es es[j].1 = some es[j].2 := by
  unfold mget
  have : es.find? (fun p => decide (p.1 = es[j].1)) = some es[j] := by
    rw [List.find?_eq_some_iff_getElem]
    refine ⟨by simp, j, hj, rfl, fun m hm => ?_⟩
    simp only [Bool.not_eq_eq_eq_not, Bool.not_true, decide_eq_false_iff_not]
    intro e
    have := nodup_inj hn (i := m) (j := j) (by simp [mkeys]; omega) (by simpa [mkeys] using hj) (by simpa [mkeys] using e)
    omega
  rw [this]; rfl
theorem mget_some {es : List (Int × Value)} (hn : (mkeys es).Nodup) {i : Int} {v : Value} (h : (i, v) ∈ es) : mget es i = some v := by
  obtain ⟨j, hj, e⟩ := List.getElem_of_mem h
  have := mget_at hn hj
  rwa [e] at this
theorem mget_mem {es : List (Int × Value)} {i : Int} {v : Value} (h : mget es i = some v) : (i, v) ∈ es := by
  unfold mget at h
  obtain ⟨p, hp, rfl⟩ := Option.map_eq_some_iff.1 h
  have h1 := List.mem_of_find?_eq_some hp
  have h2 := List.find?_some hp
  simp only [decide_eq_true_eq] at h2
  subst h2
  exact h1
theorem mkeys_mset {es : List (Int × Value)} {i : Int} {v : Value} : mkeys (mset es i v) = if i ∈ mkeys es then mkeys es else mkeys es ++ [i] := by
  unfold mset
  split
  · unfold mkeys
    rw [List.map_map]
    apply List.map_congr_left
    intro p _
    simp only [Function.comp]
    split
    · rename_i h; exact h.symm
    · rfl
  · simp [mkeys]
theorem mget_mset {es : List (Int × Value)} {i j : Int} {v : Value} : mget (mset es i v) j = if j = i then some v else mget es j := by
  unfold mset
  split
  · rename_i hi
    have hmap : mget (es.map fun p => if p.1 = i then (i, v) else p) j = if j = i then some v else mget es j := by
      unfold mkeys at hi
      revert hi
      induction es with
      | nil => intro hi; simp at hi
      | cons p es ih =>
        intro hi
        simp only [mget, List.map_cons, List.find?_cons] at ih ⊢
        by_cases hp : p.1 = i
        · simp only [hp, if_true]
          by_cases hj : j = i
          · subst hj; simp
          · have h1 : ¬ i = j := fun e => hj e.symm
            simp only [h1, decide_false, hj, if_false]
            by_cases h2 : i ∈ es.map (·.1)
            · have := ih h2; rw [if_neg hj] at this; exact this
            · have : (es.map fun p => if p.1 = i then (i, v) else p) = es := by
                rw [List.map_congr_left (g := id)]
                · simp
                · intro q hq
                  rw [if_neg fun e => h2 (List.mem_map.2 ⟨q, hq, e⟩)]; rfl
              rw [this]
        · simp only [if_neg hp]
          have h2 : i ∈ es.map (·.1) := by
            rcases List.mem_cons.1 hi with h | h
            · exact absurd h.symm hp
            · exact h
          by_cases hpj : p.1 = j
          · have : ¬ j = i := fun e => hp (hpj.trans e)
            simp [hpj, this]
          · simp only [hpj, decide_false]
            exact ih h2
    exact hmap
  · rename_i hi
    unfold mget
    rw [List.find?_append]
    by_cases hj : j = i
    · subst hj
      have h1 : es.find? (fun p => decide (p.1 = j)) = none := by
        have := mget_none.2 hi
        unfold mget at this
        exact Option.map_eq_none_iff.1 this
      simp [h1]
    · have h1 : ¬ i = j := fun e => hj e.symm
      simp [h1, hj]
theorem mkeys_mdel {es : List (Int × Value)} {i : Int} : mkeys (mdel es i) = (mkeys es).filter fun j => decide (j ≠ i) := by
  unfold mkeys mdel
  rw [List.filter_map]; rfl
theorem mget_mdel {es : List (Int × Value)} {i j : Int} : mget (mdel es i) j = if j = i then none else mget es j := by
  by_cases hj : j = i
  · subst hj
    rw [if_pos rfl, mget_none, mkeys_mdel]
    simp
  · rw [if_neg hj]
    unfold mget mdel
    congr 1
    induction es with
    | nil => rfl
    | cons p es ih =>
      rw [List.filter_cons]
      by_cases hp : p.1 = i
      · have h1 : ¬ p.1 = j := fun e => hj (e.symm.trans hp)
        simp only [hp, ne_eq, not_true, decide_false, Bool.false_eq_true, if_false, List.find?_cons]
        have h2 : ¬ i = j := fun e => hj e.symm
        simp only [h2, decide_false]
        exact ih
      · simp only [ne_eq, hp, not_false_iff, decide_true, if_true, List.find?_cons]
        split
        · rfl
        · exact ih

/-- What lies in a map's block. -/
structure MI (ent : Array MapEntry) (clock : Nat) (k : IntKind) (es : List (Int × Value)) : Prop where
  st : Stamped ent clock
  same : (ent.toList.map fun e => (e.key, e.val)) = es.map fun p => (Value.int k p.1, p.2)

variable {ent : Array MapEntry} {clock : Nat} {k : IntKind} {es : List (Int × Value)}
theorem MI.empty (clock : Nat) : MI #[] clock k [] := ⟨stamped_empty _, rfl⟩
theorem MI.len (h : MI ent clock k es) : ent.toList.length = es.length := by
  have := congrArg List.length h.same
  simpa using this
theorem MI.at' (h : MI ent clock k es) {j : Nat} (hj : j < es.length) : ∃ e, ent.toList[j]? = some e ∧ e.key = .int k es[j].1 ∧ e.val = es[j].2 := by
  have hl := h.len
  have h1 : (ent.toList.map fun e => (e.key, e.val))[j]? = (es.map fun p => (Value.int k p.1, p.2))[j]? := by rw [h.same]
  rw [List.getElem?_map, List.getElem?_map, List.getElem?_eq_getElem hj, List.getElem?_eq_getElem (show j < ent.toList.length by omega)] at h1
  simp only [Option.map_some, Option.some.injEq, Prod.mk.injEq] at h1
  exact ⟨_, List.getElem?_eq_getElem (by omega), h1.1, h1.2⟩
theorem MI.of (h : MI ent clock k es) {e : MapEntry} (he : e ∈ ent.toList) : ∃ p ∈ es, e.key = .int k p.1 ∧ e.val = p.2 := by
  obtain ⟨j, hj, e1⟩ := List.getElem_of_mem he
  have hl := h.len
  obtain ⟨e', h1, h2, h3⟩ := h.at' (j := j) (by omega)
  rw [List.getElem?_eq_getElem hj, e1] at h1
  injection h1 with h1
  subst h1
  exact ⟨_, List.getElem_mem _, h2, h3⟩
theorem MI.keys (h : MI ent clock k es) : ∀ x ∈ ent.toList, IsKey (.int k) x.key := fun x hx => by
  obtain ⟨p, _, h1, _⟩ := h.of hx
  rw [h1]; rfl
theorem MI.nodup (h : MI ent clock k es) : (mkeys es).Nodup := by
  have h1 := h.st.2.2
  have h2 : ent.toList.map (·.key) = (mkeys es).map (Value.int k) := by
    have := congrArg (List.map Prod.fst) h.same
    rw [List.map_map, List.map_map] at this
    unfold mkeys
    rw [List.map_map]
    exact this
  rw [h2] at h1
  rw [List.Nodup, List.pairwise_map] at h1
  exact h1.imp fun h e => h (by rw [e])
theorem MI.find (h : MI ent clock k es) (i : Int) :
    (mget es i = none ∧ i ∉ mkeys es ∧ Instr.findNow (.int k) (.int k i) ent.toList 0 = some none ∧ ∀ x ∈ ent.toList, x.key ≠ .int k i) ∨
    ∃ (j : Nat) (e : MapEntry) (hj : j < es.length), Instr.findNow (.int k) (.int k i) ent.toList 0 = some (some (j, e.val)) ∧ ent[j]? = some e ∧ e.key = .int k i ∧ es[j] = (i, e.val) ∧ mget es i = some e.val := by
  rcases findNow_spec (d := .int k) (k := .int k i) rfl ent.toList 0 h.keys with ⟨h1, h2⟩ | ⟨j, e, h1, h2, h3⟩
  · refine .inl ?_
    have hk : i ∉ mkeys es := fun hi => by
      obtain ⟨p, hp, rfl⟩ := List.mem_map.1 hi
      obtain ⟨j, hj, e1⟩ := List.getElem_of_mem hp
      obtain ⟨e', g1, g2, _⟩ := h.at' hj
      refine h2 e' (List.mem_of_getElem? g1) ?_
      rw [g2, e1]
    exact ⟨mget_none.2 hk, hk, h1, h2⟩
  · have hjl : j < es.length := by
      have := (List.getElem?_eq_some_iff.1 h2).1
      have := h.len
      omega
    obtain ⟨e', g1, g2, g3⟩ := h.at' hjl
    rw [h2] at g1
    injection g1 with g1
    subst g1
    rw [h3] at g2
    have hi : es[j].1 = i := by injection g2 with _ g2; exact g2.symm
    have hej : es[j] = (i, e.val) := by rw [← hi, g3]
    refine .inr ⟨j, e, hjl, by simpa using h1, by simpa using h2, h3, hej, ?_⟩
    have := mget_at h.nodup hjl
    rw [hej] at this
    exact this
theorem MI.set (h : MI ent clock k es) {i : Int} {v : Value} : (i ∉ mkeys es → MI (ent.push { key := .int k i, val := v, born := clock }) (clock + 1) k (mset es i v)) ∧
    (∀ j, (hj : j < es.length) → es[j].1 = i → MI (ent.modify j fun e => { e with key := .int k i, val := v }) clock k (mset es i v)) := by
  constructor
  · intro hi
    refine ⟨stamped_push h.st fun x hx e => ?_, ?_⟩
    · obtain ⟨p, hp, h1, _⟩ := h.of hx
      rw [h1] at e
      injection e with _ e
      exact hi (List.mem_map.2 ⟨p, hp, e⟩)
    · rw [mset, if_neg hi, Array.toList_push, List.map_append, List.map_append, h.same]; rfl
  · intro j hj e1
    obtain ⟨e', g1, g2, g3⟩ := h.at' hj
    have g1' : ent[j]? = some e' := by simpa using g1
    refine ⟨stamped_modify h.st _ _ (fun _ _ => rfl) (fun e _ he => ?_), ?_⟩
    · rw [g1'] at he
      injection he with he
      subst he
      rw [g2, e1]
    · have hm : i ∈ mkeys es := e1 ▸ List.mem_map.2 ⟨_, List.getElem_mem hj, rfl⟩
      rw [mset, if_pos hm]
      apply List.ext_getElem?
      intro m
      rw [List.getElem?_map, Array.getElem?_toList, Array.getElem?_modify, List.map_map, List.getElem?_map]
      by_cases hmj : j = m
      · subst hmj
        rw [if_pos rfl, g1', List.getElem?_eq_getElem hj]
        simp [e1]
      · rw [if_neg hmj]
        by_cases hml : m < es.length
        · obtain ⟨em, k1, k2, k3⟩ := h.at' hml
          have hne : ¬ es[m].1 = i := fun e2 => hmj (nodup_inj h.nodup (i := j) (j := m) (by simpa [mkeys] using hj) (by simpa [mkeys] using hml) (by simp [mkeys, e1, e2]))
          have k1' : ent[m]? = some em := by simpa using k1
          rw [k1', List.getElem?_eq_getElem hml]
          simp [hne, k2, k3]
        · have hl := h.len
          rw [List.getElem?_eq_none (by omega)]
          have : ent[m]? = none := Array.getElem?_eq_none (by simpa using (by omega : ent.toList.length ≤ m))
          rw [this]; rfl
theorem erase_map {α β : Type} (f : α → β) : ∀ (l : List α) (j : Nat), (l.eraseIdx j).map f = (l.map f).eraseIdx j
  | [], _ => rfl
  | _ :: _, 0 => rfl
  | x :: l, j + 1 => by simp [erase_map f l j]
theorem MI.del (h : MI ent clock k es) {i : Int} : (i ∉ mkeys es → MI ent clock k (mdel es i)) ∧ (∀ j, (hj : j < es.length) → es[j].1 = i → MI (ent.eraseIdxIfInBounds j) clock k (mdel es i)) := by
  constructor
  · intro hi
    have : mdel es i = es := by
      unfold mdel
      rw [List.filter_eq_self]
      intro p hp
      simp only [ne_eq, decide_not, Bool.not_eq_eq_eq_not, Bool.not_true, decide_eq_false_iff_not]
      intro e
      exact hi (List.mem_map.2 ⟨p, hp, e⟩)
    rw [this]; exact h
  · intro j hj e1
    refine ⟨stamped_erase h.st j, ?_⟩
    have hl := h.len
    have hjs : j < ent.size := by simpa using (show j < ent.toList.length by omega)
    have he : (ent.eraseIdxIfInBounds j).toList = ent.toList.eraseIdx j := by
      unfold Array.eraseIdxIfInBounds
      rw [dif_pos hjs, Array.toList_eraseIdx]
    rw [he]
    have hd : mdel es i = es.eraseIdx j := by
      have hn := h.nodup
      unfold mkeys at hn
      rw [List.eraseIdx_eq_take_drop_succ]
      have hsp : es = es.take j ++ es[j] :: es.drop (j + 1) := by rw [← List.drop_eq_getElem_cons hj, List.take_append_drop]
      have hn' := hn
      rw [hsp, List.map_append, List.map_cons, List.nodup_append, List.nodup_cons] at hn'
      obtain ⟨_, ⟨n1, _⟩, n2⟩ := hn'
      have hA : ∀ x ∈ es.take j, x.1 ≠ i := fun x hx e => n2 x.1 (List.mem_map.2 ⟨x, hx, rfl⟩) es[j].1 (by simp) (e.trans e1.symm)
      have hB : ∀ x ∈ es.drop (j + 1), x.1 ≠ i := fun x hx e => n1 (List.mem_map.2 ⟨x, hx, e.trans e1.symm⟩)
      have : mdel es i = mdel (es.take j ++ es[j] :: es.drop (j + 1)) i := by rw [← hsp]
      rw [this]
      unfold mdel
      rw [List.filter_append, List.filter_cons]
      simp only [e1, ne_eq, not_true, decide_false, Bool.false_eq_true, if_false]
      rw [List.filter_eq_self.2 (fun x hx => by simpa using hA x hx), List.filter_eq_self.2 (fun x hx => by simpa using hB x hx)]
    rw [hd, erase_map, h.same, erase_map]

/-- A map, as a piece. -/
def mapP (r : Nat) (k : IntKind) (es : List (Int × Value)) : HP := fun F => ∃ x : Array MapEntry × Nat, MI x.1 x.2 k es ∧ pt r (.map x.1 x.2) F
theorem Sat.mapOpen {w : World} {L : List HP} {r : Nat} (hS : Sat oo w L) (q : Nat) (hq : L[q]? = some (mapP r k es)) : ∃ ent clock, MI ent clock k es ∧ Sat oo w (L.set q (pt r (.map ent clock))) := by
  obtain ⟨x, h⟩ := hS.ex q (q := fun (x : Array MapEntry × Nat) F => MI x.1 x.2 k es ∧ pt r (.map x.1 x.2) F) hq (fun F h => h)
  have hlt : q < L.length := (List.getElem?_eq_some_iff.1 hq).1
  have h1 := h.fact q (List.getElem?_set_self hlt) (fun F hF => hF.1)
  have h2 := h.imp q (List.getElem?_set_self hlt) (p' := pt r (.map x.1 x.2)) (fun F hF => hF.2)
  rw [List.set_set] at h2
  exact ⟨x.1, x.2, h1, h2⟩
theorem Sat.mapShut {w : World} {L : List HP} {r : Nat} (hS : Sat oo w L) (q : Nat) (hq : L[q]? = some (pt r (.map ent clock))) (h : MI ent clock k es) : Sat oo w (L.set q (mapP r k es)) :=
  hS.imp q hq fun F hF => ⟨(ent, clock), h, hF⟩

section
variable {P : Program} {N : Nat} {D : List Deferred} {S : World → Prop} {E : Env} {w : World} {dst : Option Nat} {ty : TypeId} {pos : String} {af : Array Edge} {g : Option (Nat × Bool)} {L : List HP}
variable {t kt et n nk r : Nat} {x y z : Operand} {i : Int} {v : Value}

theorem run_lookup [hm : TI P t (.map kt et) n] [hk : TI P kt (.int k) nk] {zv : Value} [hz : TZ P et zv] (hi : MI ent clock k es) (ok : Bool) (hw : w.heap[r]? = some (.map ent clock)) :
    (Instr.lookup t (.map (some r)) (.int k i) ok).run P w = .ok (if ok then .tuple #[(mget es i).getD zv, .bool (mget es i).isSome] else (mget es i).getD zv) w := by
  have hc : ∀ e m, (Instr.checkKey e (m + 1) kt (.int k i)).run P w = .ok () w := fun e m => Go.MapKept.run_checkKey (k := .int k i) hk.u rfl e m
  rcases hi.find i with ⟨h1, _, h2, _⟩ | ⟨j, e, hj, h2, _, _, _, h1⟩
  · simp [Instr.lookup, run_underlying hm, Go.MapKept.run_getObj_map hw, hc, Go.MapKept.run_findKey hk.u h2, run_zeroValue hz, h1]
  · simp [Instr.lookup, run_underlying hm, Go.MapKept.run_getObj_map hw, hc, Go.MapKept.run_findKey hk.u h2, h1]
theorem Qt.lkT [hm : TI P t (.map kt et) n] [hk : TI P kt (.int k) nk] {zv : Value} [hz : TZ P et zv] (hx : ev E x = some (.map (some r))) (hy : ev E y = some (.int k i)) (hw : ∀ w, S w → w.heap[r]? = some (.map ent clock)) (hi : MI ent clock k es) :
    Qt P S E ⟨dst, .lookup t x y true, ty, pos, af, g⟩ (.tuple #[(mget es i).getD zv, .bool (mget es i).isSome]) := fun a ha w hS => by
  have := run_lookup (P := P) (t := t) (i := i) hi true (hw w hS)
  simp only [if_true] at this
  simp [execOp, ha.ev hx, ha.ev hy, this]
theorem Qt.lk [hm : TI P t (.map kt et) n] [hk : TI P kt (.int k) nk] {zv : Value} [hz : TZ P et zv] (hx : ev E x = some (.map (some r))) (hy : ev E y = some (.int k i)) (hw : ∀ w, S w → w.heap[r]? = some (.map ent clock)) (hi : MI ent clock k es) :
    Qt P S E ⟨dst, .lookup t x y false, ty, pos, af, g⟩ ((mget es i).getD zv) := fun a ha w hS => by
  have := run_lookup (P := P) (t := t) (i := i) hi false (hw w hS)
  simp only [Bool.false_eq_true, if_false] at this
  simp [execOp, ha.ev hx, ha.ev hy, this]
theorem Qt.lenM [hm : TI P t (.map kt et) n] (hx : ev E x = some (.map (some r))) (hw : ∀ w, S w → w.heap[r]? = some (.map ent clock)) (hi : MI ent clock k es) :
    Qt P S E ⟨dst, .call ⟨.builtin .len, #[x], #[t]⟩, ty, pos, af, g⟩ (.int .i64 es.length) := fun a ha w hS => by
  have hl := hi.len
  simp only [Array.length_toList] at hl
  simp [execOp, resolve, invoke, builtin, Builtin.len_, ha.ev hx, run_underlying hm, goInt, Go.MapKept.run_getObj_map (hw w hS), hl]

theorem Ef.mkm (hS : Sat oo w L) : Ef P N D E w ⟨dst, .makeMap t none, ty, pos, af, g⟩ (fun u w' => ∃ r, u = .map (some r) ∧ Sat oo w' (mapP r k [] :: L)) := Ef.of_run fun a ha => by
  refine .inl ⟨.map (some w.heap.size), w.alloc (.map #[] 0), by simp [execOp, Instr.makeMap, newObj, Sem.run], w.heap.size, rfl, ?_⟩
  exact (hS.new (.map #[] 0) rfl).mapShut 0 rfl (MI.empty 0)

theorem run_mapUpdate [hm : TI P t (.map kt et) n] [hk : TI P kt (.int k) nk] (hS : Sat oo w L) (q : Nat) (hq : L[q]? = some (pt r (.map ent clock))) (hi : MI ent clock k es) :
    ∃ w' ent' clock', (Instr.mapUpdate t (.map (some r)) (.int k i) v).run P w = .ok () w' ∧ MI ent' clock' k (mset es i v) ∧ Sat oo w' (L.set q (pt r (.map ent' clock'))) := by
  have hw := hS.get q hq
  have hc : ∀ e m, (Instr.checkKey e (m + 1) kt (.int k i)).run P w = .ok () w := fun e m => Go.MapKept.run_checkKey (k := .int k i) hk.u rfl e m
  have hput : ∀ o, Sat oo { w with heap := w.heap.setIfInBounds r o } (L.set q (pt r o)) := fun o => hS.put q hq o (heap_set hw).1 (heap_set hw).2 ⟨rfl, rfl, rfl⟩
  rcases hi.find i with ⟨h1, h3, h2, _⟩ | ⟨j, e, hj, h2, h3, h4, h5, h1⟩
  · refine ⟨_, _, _, ?_, hi.set.1 h3, hput _⟩
    simp [Instr.mapUpdate, run_underlying hm, Go.MapKept.run_getObj_map hw, hc, Go.MapKept.run_findKey hk.u h2, Go.MapKept.run_setObj_map _ hw]
  · refine ⟨_, _, _, ?_, hi.set.2 j hj (by rw [h5]), hput _⟩
    have hkey : (Instr.keyThatStays (.int k i) (.int k i)).run P w = .ok (.int k i) w := run_keyThatStays (d := .int k) rfl
    simp [Instr.mapUpdate, run_underlying hm, Go.MapKept.run_getObj_map hw, hc, Go.MapKept.run_findKey hk.u h2, h3, h4, hkey, Go.MapKept.run_setObj_map _ hw]
theorem Ef.mup [hm : TI P t (.map kt et) n] [hk : TI P kt (.int k) nk] (hS : Sat oo w L) (q : Nat) (hq : L[q]? = some (mapP r k es)) (hx : ev E x = some (.map (some r))) (hy : ev E y = some (.int k i)) (hz : ev E z = some v) :
    Ef P N D E w ⟨dst, .mapUpdate t x y z, ty, pos, af, g⟩ (fun _ w' => Sat oo w' (L.set q (mapP r k (mset es i v)))) := Ef.of_run fun a ha => by
  obtain ⟨ent, clock, hi, hS⟩ := hS.mapOpen q hq
  have hlt : q < L.length := (List.getElem?_eq_some_iff.1 hq).1
  obtain ⟨w', ent', clock', h1, h2, h3⟩ := run_mapUpdate (P := P) (t := t) (i := i) (v := v) hS q (List.getElem?_set_self hlt) hi
  rw [List.set_set] at h3
  have h4 := h3.mapShut q (List.getElem?_set_self hlt) h2
  rw [List.set_set] at h4
  exact .inr ⟨w', by simp [execOp, ha.ev hx, ha.ev hy, ha.ev hz, h1], h4⟩
theorem Ef.mins [hm : TI P t (.map kt et) n] [hk : TI P kt (.int k) nk] (hS : Sat oo w L) (q : Nat) (hq : L[q]? = some (mapP r k es)) (hx : ev E x = some (.map (some r))) (hy : ev E y = some (.int k i)) (hz : ev E z = some v) :
    Ef P N D E w ⟨dst, .insert t x y z, ty, pos, af, g⟩ (fun _ w' => Sat oo w' (L.set q (mapP r k (mset es i v)))) := Ef.of_run fun a ha => by
  obtain ⟨ent, clock, hi, hS⟩ := hS.mapOpen q hq
  have hlt : q < L.length := (List.getElem?_eq_some_iff.1 hq).1
  obtain ⟨w', ent', clock', h1, h2, h3⟩ := run_mapUpdate (P := P) (t := t) (i := i) (v := v) hS q (List.getElem?_set_self hlt) hi
  rw [List.set_set] at h3
  have h4 := h3.mapShut q (List.getElem?_set_self hlt) h2
  rw [List.set_set] at h4
  exact .inr ⟨w', by simp [execOp, ha.ev hx, ha.ev hy, ha.ev hz, h1], h4⟩
theorem Ef.mdl {t2 : Nat} [hm : TI P t (.map kt et) n] [hk : TI P kt (.int k) nk] (hS : Sat oo w L) (q : Nat) (hq : L[q]? = some (mapP r k es)) (hx : ev E x = some (.map (some r))) (hy : ev E y = some (.int k i)) :
    Ef P N D E w ⟨dst, .call ⟨.builtin .delete, #[x, y], #[t, t2]⟩, ty, pos, af, g⟩ (fun _ w' => Sat oo w' (L.set q (mapP r k (mdel es i)))) := Ef.of_run fun a ha => by
  obtain ⟨ent, clock, hi, hS⟩ := hS.mapOpen q hq
  have hlt : q < L.length := (List.getElem?_eq_some_iff.1 hq).1
  have hq' := List.getElem?_set_self (l := L) (i := q) (a := pt r (.map ent clock)) hlt
  have hw := hS.get q hq'
  have hc : ∀ e m, (Instr.checkKey e (m + 1) kt (.int k i)).run P w = .ok () w := fun e m => Go.MapKept.run_checkKey (k := .int k i) hk.u rfl e m
  have hput : ∀ {ent' clock'}, MI ent' clock' k (mdel es i) → Sat oo { w with heap := w.heap.setIfInBounds r (.map ent' clock') } (L.set q (mapP r k (mdel es i))) := fun {ent' clock'} h => by
    have h1 := hS.put q hq' (.map ent' clock') (w' := { w with heap := w.heap.setIfInBounds r (.map ent' clock') }) (heap_set hw).1 (heap_set hw).2 ⟨rfl, rfl, rfl⟩
    rw [List.set_set] at h1
    have h4 := h1.mapShut q (List.getElem?_set_self hlt) h
    rwa [List.set_set] at h4
  rcases hi.find i with ⟨h1, h3, h2, _⟩ | ⟨j, e, hj, h2, h3, h4, h5, h1⟩
  · refine .inl ⟨.tuple #[], _, ?_, hput (hi.del.1 h3)⟩
    simp [execOp, resolve, invoke, builtin, Builtin.delete_, ha.ev hx, ha.ev hy, run_underlying hm, Go.MapKept.run_getObj_map hw, hc, Go.MapKept.run_findKey hk.u h2, Go.MapKept.run_setObj_map _ hw]
  · refine .inl ⟨.tuple #[], _, ?_, hput (hi.del.2 j hj (by rw [h5]))⟩
    simp [execOp, resolve, invoke, builtin, Builtin.delete_, ha.ev hx, ha.ev hy, run_underlying hm, Go.MapKept.run_getObj_map hw, hc, Go.MapKept.run_findKey hk.u h2, Go.MapKept.run_setObj_map _ hw]
theorem Ef.mclr [hm : TI P t (.map kt et) n] (hS : Sat oo w L) (q : Nat) (hq : L[q]? = some (mapP r k es)) (hx : ev E x = some (.map (some r))) :
    Ef P N D E w ⟨dst, .call ⟨.builtin .clear, #[x], #[t]⟩, ty, pos, af, g⟩ (fun _ w' => Sat oo w' (L.set q (mapP r k []))) := Ef.of_run fun a ha => by
  obtain ⟨ent, clock, hi, hS⟩ := hS.mapOpen q hq
  have hlt : q < L.length := (List.getElem?_eq_some_iff.1 hq).1
  have hq' := List.getElem?_set_self (l := L) (i := q) (a := pt r (.map ent clock)) hlt
  have hw := hS.get q hq'
  have h1 := hS.put q hq' (.map #[] clock) (w' := { w with heap := w.heap.setIfInBounds r (.map #[] clock) }) (heap_set hw).1 (heap_set hw).2 ⟨rfl, rfl, rfl⟩
  rw [List.set_set] at h1
  have h4 := h1.mapShut q (List.getElem?_set_self hlt) (MI.empty (k := k) clock)
  rw [List.set_set] at h4
  refine .inl ⟨.tuple #[], _, ?_, h4⟩
  simp [execOp, resolve, invoke, builtin, Builtin.clear_, ha.ev hx, run_underlying hm, Go.MapKept.run_getObj_map hw, Go.MapKept.run_setObj_map _ hw]

/-! ### ranging: the keys that have been are kept as a list -/
def MIt (ent : Array MapEntry) (k : IntKind) (seen : Array Nat) (done : List Int) : Prop := ∀ e ∈ ent.toList, (seen.contains e.born = true ↔ ∃ i ∈ done, e.key = .int k i)
theorem MIt.nil : MIt ent k #[] [] := fun e _ => by simp
theorem MIt.push (hi : MI ent clock k es) {seen : Array Nat} {done : List Int} (h : MIt ent k seen done) {e : MapEntry} (he : e ∈ ent.toList) {i : Int} (hk : e.key = .int k i) : MIt ent k (seen.push e.born) (i :: done) := fun e' he' => by
  have h1 := h e' he'
  simp only [Array.contains_iff_mem, Array.mem_push, List.mem_cons] at h1 ⊢
  rw [h1]
  constructor
  · rintro (⟨j, hj, hkj⟩ | hb)
    · exact ⟨j, .inr hj, hkj⟩
    · have : e' = e := by
        obtain ⟨a, ha, e1⟩ := List.getElem_of_mem he'
        obtain ⟨b, hb', e2⟩ := List.getElem_of_mem he
        have := nodup_inj hi.st.2.1 (i := a) (j := b) (by simpa using ha) (by simpa using hb') (by simp [e1, e2, hb])
        subst this
        rw [← e1, ← e2]
      subst this
      exact ⟨i, .inl rfl, hk⟩
  · rintro ⟨j, rfl | hj, hkj⟩
    · refine .inr ?_
      obtain ⟨a, ha, e1⟩ := List.getElem_of_mem he'
      obtain ⟨b, hb', e2⟩ := List.getElem_of_mem he
      have := nodup_inj hi.st.2.2 (i := a) (j := b) (by simpa using ha) (by simpa using hb') (by simp [e1, e2, hk, hkj])
      subst this
      rw [← e1, ← e2]
    · exact .inl ⟨j, hj, hkj⟩

theorem Ef.rng [hm : TI P t (.map kt et) n] (hS : Sat oo w L) (q : Nat) (hq : L[q]? = some (pt r (.map ent clock))) (hx : ev E x = some (.map (some r))) :
    Ef P N D E w ⟨dst, .range t x, ty, pos, af, g⟩ (fun u w' => ∃ b, u = .pointer (some ⟨b, 0, none⟩) ∧ Sat oo w' (pt b (.mapIter (some r) clock #[] clock) :: L)) := Ef.of_run fun a ha => by
  have hw := hS.get q hq
  refine .inl ⟨.pointer (some ⟨w.heap.size, 0, none⟩), w.alloc (.mapIter (some r) clock #[] clock), ?_, w.heap.size, rfl, hS.new _ rfl⟩
  simp [execOp, Instr.range, ha.ev hx, run_underlying hm, Go.MapKept.run_getObj_map hw, newObj, Sem.run]

end
end Go.Gx

/- A range over a function: the iterator's contract, the loop's rule, a round's ways out, leaving a function that holds such a loop. No condition; nothing of any program stands here. -/
namespace Go.Gx
open Go
variable {oo : World}

section
variable {P : Program} {N : Nat} {D : List Deferred} {Q : Exit → Act → World → Prop} {E : Env} {w : World} {dst : Option Nat} {ty : TypeId} {pos : String} {af : Array Edge} {g : Option (Nat × Bool)} {L : List HP}

/-- A call of yield: its round. -/
def Yd (P : Program) (l : Nat) (args : Array Value) (w : World) (R : Value → World → Prop) : Prop :=
  ∃ fn tmps assign body, (Instr.yield l args).run P w = .ok (.round l fn tmps assign body) w ∧ RoundIn (FW none) 0 P l fn tmps assign body w (fun e w' => ∃ v, e = .returned v ∧ R v w')

theorem args_eval {a : Act} (ha : Knows a E) {args : Array Operand} {vs : Array Value} (hvs : args.toList.map (ev E) = vs.toList.map some) : args.map a.eval = vs := by
  apply Array.ext'
  simp only [Array.toList_map]
  apply List.ext_getElem?
  intro i
  have h1 : (args.toList.map (ev E))[i]? = (vs.toList.map some)[i]? := by rw [hvs]
  simp only [List.getElem?_map] at h1 ⊢
  cases hi : args.toList[i]? with
  | none =>
    rw [hi] at h1
    simp only [Option.map_none] at h1 ⊢
    cases hj : vs.toList[i]? with
    | none => rfl
    | some u => rw [hj] at h1; simp at h1
  | some y =>
    rw [hi] at h1
    simp only [Option.map_some] at h1 ⊢
    cases hj : vs.toList[i]? with
    | none => rw [hj] at h1; simp at h1
    | some u =>
      rw [hj] at h1
      simp only [Option.map_some, Option.some.injEq] at h1
      rw [ha.ev h1]

theorem Ef.yield {x : Operand} {args : Array Operand} {at' : Array TypeId} {vs : Array Value} {l : Nat} {R : Value → World → Prop} (hx : ev E x = some (.func (.yield l) #[] #[])) (hvs : args.toList.map (ev E) = vs.toList.map some) (h : Yd P l vs w R) :
    Ef P N D E w ⟨dst, .call ⟨.value x, args, at'⟩, ty, pos, af, g⟩ R := fun ρ a ha K Q hK => by
  obtain ⟨fn, tmps, assign, body, hy, hR⟩ := h
  have hrun : (execOp a.eval ⟨dst, .call ⟨.value x, args, at'⟩, ty, pos, af, g⟩).run P w = .ok (.round l fn tmps assign body) w := by
    simp [execOp, resolve, ha.knows.ev hx, args_eval ha.knows hvs, Deferred.ofValue, invoke, hy]
  refine ⟨fun _ _ => trivial, ?_⟩
  rw [Oper.semAt_eq _ _ _ (fun c hc => by cases hc), hrun, Oper.uponIn_round]
  refine ⟨fun h => (by cases h), ?_⟩
  refine RoundIn.mono (F := FW ρ) hR ?_
  rintro e w' ⟨v, rfl, hv⟩
  exact hK v w' hv

/-- What an iterator hands back: all rounds have been, or one has said no. -/
def itR (oo : World) (pre : List HP) (J : Nat → HP) (n : Nat) (X : HP) : Ending → World → Prop := fun e w' => ∃ v, e = .returned v ∧ (Sat oo w' (pre ++ [J n]) ∨ Sat oo w' (pre ++ [X]))

/-- The iterator f with what it has captured yields xs, one by one, and leaves its own pieces as they are. -/
def It (P : Program) (f : FuncId) (cap : Array Value) (pre : List HP) (xs : List (Array Value)) : Prop :=
  ∀ (oo : World) (l : Nat) (J : Nat → HP) (X : HP) (w : World),
    (∀ k (hk : k < xs.length) w, Sat oo w (pre ++ [J k]) → Yd P l xs[k] w (fun v w' => (v = .bool true ∧ Sat oo w' (pre ++ [J (k + 1)])) ∨ (v = .bool false ∧ Sat oo w' (pre ++ [X])))) →
    Sat oo w (pre ++ [J 0]) → CallsIn (FW none) 0 P f (#[Value.func (.yield l) #[] #[]] ++ cap) w (itR oo pre J xs.length X)

theorem It.enter {f : FuncId} {fn : Func} {c : Code} {cap : Array Value} {pre : List HP} {xs : List (Array Value)} (hf : P.funcs[f]? = some fn) (hb : fn.body = some c) (hN : (#[Value.nilFunc] ++ cap).size ≤ fn.ntmps)
    (h : ∀ oo l J X w, (∀ k (hk : k < xs.length) w, Sat oo w (pre ++ [J k]) → Yd P l xs[k] w (fun v w' => (v = .bool true ∧ Sat oo w' (pre ++ [J (k + 1)])) ∨ (v = .bool false ∧ Sat oo w' (pre ++ [X])))) →
      Sat oo w (pre ++ [J 0]) → RC none P fn.ntmps [] (bodyP P fn (itR oo pre J xs.length X)) c (initE 0 (#[Value.func (.yield l) #[] #[]] ++ cap).toList) w) : It P f cap pre xs := fun oo l J X w hr hS => by
  have hs : (#[Value.func (.yield l) #[] #[]] ++ cap).size ≤ fn.ntmps := by simpa using hN
  generalize hargs : #[Value.func (.yield l) #[] #[]] ++ cap = args at hs
  have h1 := h oo l J X w hr hS
  rw [hargs] at h1
  have hA : Agree fn.ntmps [] { tmps := args ++ Array.replicate (fn.ntmps - args.size) undef, defers := [] } (initE 0 args.toList) := by
    refine ⟨?_, rfl, ?_⟩
    · simp; omega
    · intro t v hv
      obtain ⟨_, h2⟩ := initE_look _ _ _ _ hv
      simp only [Nat.sub_zero] at h2
      have hlt : t < args.size := by
        rcases Nat.lt_or_ge t args.size with h | h
        · exact h
        · rw [List.getElem?_eq_none (by simpa using h)] at h2; cases h2
      have h3 : args[t]? = some v := by simpa using h2
      simp [Array.getElem?_append_left hlt, h3]
  exact callsIn_of_wp_marks (F := FW none) hf hb trivial (wpIn_mono (h1 _ hA) (fun e a w' hq => by cases e <;> first | exact hq | exact hq.elim))

theorem RE.retI {fn : Func} {pre : List HP} {J : Nat → HP} {n : Nat} {X : HP} {vs : List Value} (hr : resV E fn.results.toList = some vs) (hS : Sat oo w (pre ++ [J n]) ∨ Sat oo w (pre ++ [X])) : RE N [] (bodyP P fn (itR oo pre J n X)) .ret E w := fun a ha => by
  show LeavesInM _ _ _ _ _ _ a.defers _ _
  rw [ha.defers]
  exact ⟨_, run_results ha.knows hr w, _, rfl, hS⟩
theorem RE.endI {fn : Func} {pre : List HP} {J : Nat → HP} {n : Nat} {X : HP} {vs : List Value} (hr : resV E fn.results.toList = some vs) (hS : Sat oo w (pre ++ [J n]) ∨ Sat oo w (pre ++ [X])) : RE N [] (bodyP P fn (itR oo pre J n X)) .normal E w := fun a ha => by
  show LeavesInM _ _ _ _ _ _ a.defers _ _
  rw [ha.defers]
  exact ⟨_, run_results ha.knows hr w, _, rfl, hS⟩

/-! ### The loop -/
def mk (b : Nat) : Deferred := { target := .collected b, args := #[] }
def df (b : Nat) : HP := pt b (.deferred (some []))

theorem Sat.dropLast {A : List HP} {p : HP} (h : Sat oo w (A ++ [p])) : Sat oo w A := by
  refine h.sel (List.range A.length) List.nodup_range ?_
  apply List.ext_getElem?
  intro i
  simp only [List.getElem?_map]
  by_cases hi : i < A.length
  · rw [List.getElem?_range hi, List.getElem?_eq_getElem hi]
    simp only [Option.map_some]
    rw [List.getElem?_append_left hi, List.getElem?_eq_getElem hi]
  · rw [List.getElem?_eq_none (by simpa using hi), List.getElem?_eq_none (by simpa using hi)]; rfl

theorem Sat.putObj {k b : Nat} {o o' : Obj} (h : Sat oo w L) (hk : L[k]? = some (pt b o)) : Sat oo (w.putObj b o') (L.set k (pt b o')) := by
  have hb := h.get k hk
  have hlt := (Array.getElem?_eq_some_iff.1 hb).1
  exact h.put k hk o' (World.putObj_heap_same hlt) (fun c hc => World.putObj_heap_other hc) ⟨rfl, rfl, rfl⟩

/-- What is asked behind the assignment to the loop's variables: the round begins. -/
def asP (P : Program) (l : Nat) (body : Code) (Q : Exit → Act → World → Prop) : Exit → Act → World → Prop :=
  Exit.then (fun a₁ w₁ => ∃ w₂, (Instr.beginRound l).run P w₁ = .ok () w₂ ∧ body.wpIn (FW (some l)) 0 P Q a₁ w₂) (fun _ _ _ => False)
theorem Calm.as {l : Nat} {body : Code} : Calm (asP P l body Q) := fun _ _ _ _ _ hq => hq.elim
theorem RE.begin {l k : Nat} {r : Loop} {body : Code} (hS : Sat oo w L) (hk : L[k]? = some (pt l (.loop r))) (hr : r.state = .ready)
    (h : ∀ w', Sat oo w' (L.set k (pt l (.loop { r with state := .busy }))) → RC (some l) P N [] Q body E w') : RE N [] (asP P l body Q) .normal E w := fun a ha =>
  ⟨_, run_beginRound (hS.get k hk) hr, h _ (hS.putObj hk) a ha⟩

/-- What a round comes to: it goes on with the next one's pieces, or it leaves by a jump that is let out. -/
def rdR (oo : World) (l : Nat) (r : Loop) (I' : List HP) (Xc : Code → List HP → Prop) : Ending → World → Prop := fun e w' => ∃ v, e = .returned v ∧
  ((v = .bool true ∧ Sat oo w' (I' ++ [pt l (.loop r)])) ∨ (v = .bool false ∧ ∃ c ps, Xc c ps ∧ Sat oo w' (ps ++ [pt l (.loop { r with state := .done, pending := some c })])))
def rdP (oo : World) (P : Program) (l : Nat) (r : Loop) (I' : List HP) (Xc : Code → List HP → Prop) : Exit → Act → World → Prop := fun e a w =>
  match e with
  | .panic _ => False
  | _ => roundPost P l (rdR oo l r I' Xc) e a w
theorem Calm.rd {l : Nat} {r : Loop} {I' : List HP} {Xc : Code → List HP → Prop} : Calm (rdP oo P l r I' Xc) := fun _ _ _ _ _ hq => hq.elim
theorem RE.rdN {l : Nat} {r : Loop} {I' : List HP} {Xc : Code → List HP → Prop} (hr : r.state = .ready ∧ r.pending = none) (hS : Sat oo w (I' ++ [pt l (.loop { r with state := .busy })])) : RE N [] (rdP oo P l r I' Xc) .normal E w := fun a _ => by
  have hk : (I' ++ [pt l (.loop { r with state := .busy })])[I'.length]? = some (pt l (.loop { r with state := .busy })) := by simp
  refine ⟨_, _, run_endRound none (hS.get I'.length hk), .bool true, rfl, .inl ⟨rfl, ?_⟩⟩
  have := hS.putObj (o' := .loop { ({ r with state := .busy } : Loop) with state := if (none : Option Code).isNone then .ready else .done, pending := none }) hk
  rw [List.set_append_right _ _ (Nat.le_refl _), Nat.sub_self] at this
  have e : ({ ({ r with state := .busy } : Loop) with state := if (none : Option Code).isNone then .ready else .done, pending := none } : Loop) = r := by
    obtain ⟨h1, h2⟩ := hr
    cases r
    simp at h1 h2
    subst h1; subst h2
    rfl
  rw [e] at this ⊢
  exact this
theorem RE.rdJ {l : Nat} {r : Loop} {I' : List HP} {Xc : Code → List HP → Prop} {ps : List HP} (c : Code) {e : Exit} (hc : (e = .ret ∧ c = .ret) ∨ (∃ id, e = .exit id ∧ c = .exit id)) (hX : Xc c ps) (hS : Sat oo w (ps ++ [pt l (.loop { r with state := .busy })])) : RE N [] (rdP oo P l r I' Xc) e E w := fun a _ => by
  have hk : (ps ++ [pt l (.loop { r with state := .busy })])[ps.length]? = some (pt l (.loop { r with state := .busy })) := by simp
  have h1 := run_endRound (P := P) (some c) (hS.get ps.length hk)
  have h2 := hS.putObj (o' := .loop { ({ r with state := .busy } : Loop) with state := if (some c).isNone then .ready else .done, pending := some c }) hk
  rw [List.set_append_right _ _ (Nat.le_refl _), Nat.sub_self] at h2
  rcases hc with ⟨rfl, rfl⟩ | ⟨id, rfl, rfl⟩
  · exact ⟨_, _, h1, .bool false, rfl, .inr ⟨rfl, _, ps, hX, h2⟩⟩
  · exact ⟨_, _, h1, .bool false, rfl, .inr ⟨rfl, _, ps, hX, h2⟩⟩

def putPs (l : List (Nat × Value)) (E : Env) : Env := l.foldl (fun E p => p :: E) E
theorem agree_params {tmps : Array Value} (l : List (Nat × Value)) (hl : ∀ p ∈ l, p.1 < N) (ha : Agree N [] ⟨tmps, []⟩ E) : Agree N [] ⟨l.foldl (fun t p => t.setIfInBounds p.1 p.2) tmps, []⟩ (putPs l E) := by
  induction l generalizing tmps E with
  | nil => exact ha
  | cons p l ih =>
    refine ih (fun q hq => hl q (by simp [hq])) ?_
    have := ha.put (o := ⟨some p.1, .move (.const p.2), 0, "", #[], none⟩) (by simpa [dstOK] using hl p (by simp)) p.2
    simpa [Act.put, putE] using this

/-- The rule of the loop. -/
theorem RC.rangeFn {gx : Operand} {ps : Array Tmp} {assign body : Code} {f : FuncId} {cap : Array Value} {pre rest : List HP} {xs : List (Array Value)} (hS : Sat oo w L) (hIt : It P f cap pre xs) (hg : ev E gx = some (.func (.func f) #[] cap))
    (hcall : ∀ (args : Array Value) (w : World), (callFunc f args).run P w = .ok (.enter f args) w) (s t : List Nat) (hn : (s ++ t).Nodup) (hs : selL L s = some pre) (ht : selL L t = some rest)
    (hps : ∀ x ∈ xs, x.size = ps.size) (hpN : ∀ t ∈ ps.toList, t < N) (I : Nat → List HP) (hI : I 0 = rest) (Xc : Code → List HP → Prop)
    (hround : ∀ k (hk : k < xs.length) l b (r : Loop) w1, (r.state = .ready ∧ r.pending = none) → Sat oo w1 (pre ++ I k ++ [df b] ++ [pt l (.loop r)]) →
      RC (some l) P N [] (asP P l body (rdP oo P l r (pre ++ I (k + 1) ++ [df b]) (fun c q => ∃ q', Xc c q' ∧ q = pre ++ q' ++ [df b]))) assign (putPs (ps.toList.zip (xs[k]).toList) E) w1)
    (hdone : ∀ b w1, Sat oo w1 (pre ++ I xs.length ++ [df b]) → RE N (mk b :: D) Q .normal E w1)
    (hstop : ∀ c q b w1, Xc c q → Sat oo w1 (pre ++ q ++ [df b]) → RC none P N (mk b :: D) Q c E w1) : RC none P N D Q (.rangeFunc gx ps assign body) E w := fun a ha => by
  refine wpIn_rangeFunc (F := FW none) fun fn _ => ?_
  let r : Loop := { state := .ready, pending := none, fn, tmps := a.tmps, params := ps, assign, body, defers := w.heap.size }
  let l := w.heap.size + 1
  let w1 := (w.alloc (.deferred (some []))).alloc (.loop r)
  have hl : (w.alloc (.deferred (some []))).heap.size = l := by simp [l]
  have h1 : Sat oo w1 (pt l (.loop r) :: df w.heap.size :: L) := by
    have := (hS.new (.deferred (some [])) (w' := w.alloc (.deferred (some []))) rfl).new (.loop r) (w' := w1) rfl
    rwa [hl] at this
  have h2 : Sat oo w1 (pre ++ (I 0 ++ [df w.heap.size] ++ [pt l (.loop r)])) := by
    refine h1.sel (((s.map (· + 2)) ++ (t.map (· + 2)) ++ [1]) ++ [0]) ?_ ?_
    · rw [← List.map_append]
      have hm : ((s ++ t).map (· + 2)).Nodup := by
        rw [List.Nodup, List.pairwise_map]
        exact hn.imp fun h e => h (by omega)
      rw [List.nodup_append, List.nodup_append]
      refine ⟨⟨hm, by simp, ?_⟩, by simp, ?_⟩
      · intro x hx y hy
        simp at hx hy
        omega
      · intro x hx y hy
        simp at hx hy
        omega
    · have e1 := selL_map _ _ hs
      have e2 := selL_map _ _ ht
      rw [hI]
      simp only [List.map_append, List.map_map, List.map_cons, List.map_nil, List.append_assoc]
      rw [← e1, ← e2]; rfl
  have hr : r.state = .ready ∧ r.pending = none := ⟨rfl, rfl⟩
  have hev := ha.knows.ev hg
  have hres : (resolve a.eval (rangeCall gx l) 0).run P w1 = .ok { target := .fn (.func f) cap, args := #[Value.func (.yield l) #[] #[]] } w1 := by
    unfold resolve
    simp only [hev]
    simp [Deferred.ofValue, Act.eval]
  have hinv : (invoke (.fn (.func f) cap) #[Value.func (.yield l) #[] #[]]).run P w1 = .ok (.enter f (#[Value.func (.yield l) #[] #[]] ++ cap)) w1 := by
    simp only [invoke, hcall]
  refine ⟨l, [mk w.heap.size], w1, { target := .fn (.func f) cap, args := #[Value.func (.yield l) #[] #[]] }, w1, f, #[Value.func (.yield l) #[] #[]] ++ cap, w1, run_enterLoop_outer fn a.tmps ps assign body, hres, fun _ _ => trivial, hinv, fun h => (by cases h), ?_⟩
  let X : HP := fun F => ∃ c : Code × List HP, Xc c.1 c.2 ∧ Star (c.2 ++ [df w.heap.size] ++ [pt l (.loop { r with state := .done, pending := some c.1 })]) F
  have hcalls := hIt oo l (fun k => Star (I k ++ [df w.heap.size] ++ [pt l (.loop r)])) X w1 ?_ h2.join
  · refine hcalls.mono ?_
    rintro e w3 ⟨v, rfl, h3 | h3⟩
    · have h4 := h3.split
      rw [← List.append_assoc] at h4
      have hk : (pre ++ (I xs.length ++ [df w.heap.size]) ++ [pt l (.loop r)])[(pre ++ (I xs.length ++ [df w.heap.size])).length]? = some (pt l (.loop r)) := by simp
      refine ⟨none, _, run_endLoop (h4.get _ hk) (by simp [r]), ?_⟩
      have h5 := h4.putObj (o' := .loop { r with state := .exhausted }) hk
      rw [List.set_append_right _ _ (Nat.le_refl _), Nat.sub_self] at h5
      refine hdone w.heap.size _ ?_ _ ⟨ha.size, by rw [ha.defers]; rfl, ha.knows⟩
      simpa [List.append_assoc] using h5.dropLast
    · obtain ⟨⟨c, q⟩, h4⟩ := h3.ex (α := Code × List HP) pre.length (p := X) (q := fun c F => Xc c.1 c.2 ∧ Star (c.2 ++ [df w.heap.size] ++ [pt l (.loop { r with state := .done, pending := some c.1 })]) F) (by simp) (fun F h => h)
      rw [List.set_append_right _ _ (Nat.le_refl _), Nat.sub_self] at h4
      have hX := h4.fact pre.length (p := fun F => Xc c q ∧ Star (q ++ [df w.heap.size] ++ [pt l (.loop { r with state := .done, pending := some c })]) F) (by simp) (fun F h => h.1)
      have h5 := h4.imp pre.length (p := fun F => Xc c q ∧ Star (q ++ [df w.heap.size] ++ [pt l (.loop { r with state := .done, pending := some c })]) F) (p' := Star (q ++ [df w.heap.size] ++ [pt l (.loop { r with state := .done, pending := some c })])) (by simp) (fun F h => h.2)
      rw [List.set_append_right _ _ (Nat.le_refl _), Nat.sub_self] at h5
      have h6 := Sat.split (A := pre) h5
      rw [← List.append_assoc] at h6
      have hk : (pre ++ (q ++ [df w.heap.size]) ++ [pt l (.loop { r with state := .done, pending := some c })])[(pre ++ (q ++ [df w.heap.size])).length]? = some (pt l (.loop { r with state := .done, pending := some c })) := by simp
      refine ⟨some c, _, run_endLoop (h6.get _ hk) (by simp), ?_⟩
      have h7 := h6.putObj (o' := .loop { ({ r with state := .done, pending := some c } : Loop) with state := .exhausted }) hk
      rw [List.set_append_right _ _ (Nat.le_refl _), Nat.sub_self] at h7
      refine hstop c q w.heap.size _ hX ?_ _ ⟨ha.size, by rw [ha.defers]; rfl, ha.knows⟩
      simpa [List.append_assoc] using h7.dropLast
  · intro k hk w2 h3
    have h4 := h3.split
    have h5 : Sat oo w2 (pre ++ I k ++ [df w.heap.size] ++ [pt l (.loop r)]) := by simpa [List.append_assoc] using h4
    have hlk : (pre ++ I k ++ [df w.heap.size] ++ [pt l (.loop r)])[(pre ++ I k ++ [df w.heap.size]).length]? = some (pt l (.loop r)) := by simp
    have hsz := hps _ (List.getElem_mem hk)
    refine ⟨fn, _, assign, body, run_yield (h5.get _ hlk) hsz, ?_⟩
    refine RoundIn.mono (roundIn_of_wpIn (F := FW none) trivial (R := rdR oo l r (pre ++ I (k + 1) ++ [df w.heap.size]) (fun c q => ∃ q', Xc c q' ∧ q = pre ++ q' ++ [df w.heap.size])) ?_) ?_
    · have hA : Agree N [] ⟨(ps.zip xs[k]).foldl (fun tmps (t, a) => tmps.setIfInBounds t a) a.tmps, []⟩ (putPs (ps.toList.zip (xs[k]).toList) E) := by
        rw [← Array.toList_zip]
        have := agree_params (N := N) (E := E) (tmps := a.tmps) (ps.zip xs[k]).toList (fun p hp => by
          have := (List.of_mem_zip (by simpa using hp : (p.1, p.2) ∈ ps.toList.zip (xs[k]).toList)).1
          exact hpN _ this) ⟨ha.size, rfl, ha.knows⟩
        rwa [Array.foldl_toList] at this
      have h6 := hround k hk l w.heap.size r w2 hr h5 _ hA
      refine wpIn_mono (F := (FW none).inRound l) h6 ?_
      intro e a1 w4 hq
      cases e with
      | normal =>
        obtain ⟨w5, hb, hq⟩ := hq
        refine ⟨w5, hb, wpIn_mono (F := (FW none).inRound l) hq ?_⟩
        intro e a1 w4 hq
        cases e <;> exact hq
      | _ => exact hq
    · rintro e w4 ⟨v, rfl, ⟨rfl, h7⟩ | ⟨rfl, c, q, ⟨q', hX, rfl⟩, h7⟩⟩
      · refine ⟨_, rfl, .inl ⟨rfl, ?_⟩⟩
        have h8 : Sat oo w4 (pre ++ (I (k + 1) ++ [df w.heap.size] ++ [pt l (.loop r)])) := by simpa [List.append_assoc] using h7
        exact h8.join
      · refine ⟨_, rfl, .inr ⟨rfl, ?_⟩⟩
        have h8 : Sat oo w4 (pre ++ (q' ++ [df w.heap.size] ++ [pt l (.loop { r with state := .done, pending := some c })])) := by simpa [List.append_assoc] using h7
        have h9 := h8.join.imp pre.length (p := Star (q' ++ [df w.heap.size] ++ [pt l (.loop { r with state := .done, pending := some c })])) (p' := X) (by simp) (fun F h => ⟨(c, q'), hX, h⟩)
        rwa [List.set_append_right _ _ (Nat.le_refl _), Nat.sub_self] at h9

/-- Leaving a function that holds one such loop. -/
theorem RE.retM {fn : Func} {post : Value → List HP → Prop} {R : HP} {vs : List Value} {ps : List HP} {k b : Nat} (hS : Sat oo w L) (hk : L[k]? = some (df b)) (hr : resV E fn.results.toList = some vs) (hp : post (oneOf vs) ps) (s : List Nat) (hn : s.Nodup) (hs : selL (L.set k (pt b (.deferred none))) s = some (ps ++ [R])) : RE N [mk b] (bodyP P fn (endR oo post R)) .ret E w := fun a ha => by
  show LeavesInM _ _ _ _ _ _ a.defers _ _
  rw [ha.defers]
  refine ⟨by simp, .inl ⟨b, _, rfl, run_takeDeferred (hS.get k hk), ?_⟩⟩
  exact ⟨_, run_results ha.knows hr _, _, _, rfl, hp, (hS.putObj (o' := .deferred none) hk).pick s hn hs⟩
end
end Go.Gx

/- Scopes and labels that no jump leaves; two new blocks in either order. No condition; nothing of any program stands here. -/
namespace Go.Gx
open Go

theorem stepR_scope {P : Program} {b : Frame} {a : Act} {k : List Item} {cs : List Frame} {w : World} {c : Code} :
    step P (lone (b.atR a (.code (.scope c) :: k)) cs w) = .next (lone (b.atR a (.code c :: .inScope c :: k)) cs w) :=
  step_lone_go (by simp [stepG, stepG.exec, Frame.atR])
theorem stepR_inScope {P : Program} {b : Frame} {a : Act} {k : List Item} {cs : List Frame} {w : World} {c : Code} :
    step P (lone (b.atR a (.inScope c :: k)) cs w) = .next (lone (b.atR a k) cs w) :=
  step_lone_go (by simp [stepG, stepG.exec, Frame.atR])
theorem wpIn_scope {F : Fence} {n : Nat} {P : Program} {Q : Exit → Act → World → Prop} {a : Act} {w : World} {c : Code} (h : c.wpIn F n P (Exit.noGoto Q) a w) : (Code.scope c).wpIn F n P Q a w := by
  intro b k cs hro hb hr
  have h0 : (lone (b.atR a (.code (.scope c) :: k)) cs w).fenced P F := fenced_calm hb hr rfl
  obtain ⟨e, a₁, w₁, hq, harr⟩ := h b (.inScope c :: k) cs hro hb hr
  cases e with
  | normal => exact ⟨.normal, a₁, w₁, hq, .head h0 stepR_scope (StepsIn.trans harr (.one (fenced_calm hb hr rfl) stepR_inScope))⟩
  | exit id =>
    have hx : exitTo id (.inScope c :: k) = exitTo id k := by simp [exitTo]
    exact ⟨.exit id, a₁, w₁, hq, fun k' hk => .head h0 stepR_scope (harr.1 k' (by rw [hx]; exact hk)),
      fun hr' hk => let ⟨k₁, h1, h2⟩ := harr.2 hr' (by rw [hx]; exact hk); ⟨k₁, h1, .head h0 stepR_scope h2⟩⟩
  | goto l => exact hq.elim
  | ret => exact ⟨_, a₁, w₁, hq, .of_steps (.one h0 stepR_scope) harr⟩
  | panic ch => exact ⟨_, a₁, w₁, hq, .of_steps (.one h0 stepR_scope) harr⟩
  | outgrown => exact ⟨_, a₁, w₁, hq, .of_steps (.one h0 stepR_scope) harr⟩

/-- A load where the block itself may change, the cell not. -/
theorem Qt.ldE {P : Program} {S : World → Prop} {E : Env} {dst : Option Nat} {ty : TypeId} {pos : String} {af : Array Edge} {g : Option (Nat × Bool)} {t : Nat} {x : Operand} {b off n : Nat} {d : TypeDesc} {v : Value} [ht : TI P t d n] (hx : ev E x = some (.pointer (some ⟨b, off, none⟩)))
    (hw : ∀ w, S w → ∃ c T fz, w.heap[b]? = some (.cells c T fz) ∧ c.toList[off]? = some v) (hd : aggB d = false := by rfl) : Qt P S E ⟨dst, .load t x, ty, pos, af, g⟩ v := fun a ha w hS => by
  obtain ⟨c, T, fz, h1, h2⟩ := hw w hS
  have hv : c[off]? = some v := by simpa using h2
  have hc : w.cell? ⟨b, off, none⟩ = some v := (cell_of h1).trans hv
  simp [execOp, ha.ev hx, Instr.loadAt, Instr.sureAddr, loadVar, run_isAgg ht, hd, hc]

section
variable {ρ : Option Nat} {P : Program} {N : Nat} {D : List Deferred} {Q : Exit → Act → World → Prop}
def sc (Q : Exit → Act → World → Prop) : Exit → Act → World → Prop := Exit.noGoto Q
theorem RC.scope {c : Code} {E : Env} {w : World} (h : RC ρ P N D (sc Q) c E w) : RC ρ P N D Q (.scope c) E w := fun a ha => wpIn_scope (h a ha)
theorem RC.label {l : Nat} {E : Env} {w : World} (h : RE N D Q .normal E w) : RC ρ P N D Q (.label l) E w := fun a ha => wpIn_label (h a ha)
theorem RE.scN {E : Env} {w : World} (h : RE N D Q .normal E w) : RE N D (sc Q) .normal E w := fun a ha => h a ha
theorem RE.scX {id : Nat} {E : Env} {w : World} (h : RE N D Q (.exit id) E w) : RE N D (sc Q) (.exit id) E w := fun a ha => h a ha
theorem RE.scR {E : Env} {w : World} (h : RE N D Q .ret E w) : RE N D (sc Q) .ret E w := fun a ha => h a ha
theorem Calm.sc (h : Calm Q) : Calm (sc Q) := fun c a d v w hq => h c a d v w hq

theorem Sat.swap {oo w : World} {p q : HP} {L : List HP} (h : Sat oo w (p :: q :: L)) : Sat oo w (q :: p :: L) := by
  refine h.sel (1 :: 0 :: (List.range L.length).map (· + 2)) ?_ ?_
  · rw [List.nodup_cons, List.nodup_cons]
    refine ⟨by simp, by simp, nodup_shift _ _⟩
  · rw [List.map_cons, List.map_cons, List.map_cons, List.map_cons, List.map_map]
    congr 2
    apply List.ext_getElem
    · simp
    · intro i h1 h2
      simp at h1
      simp [h1]
theorem look_swap {E : Env} {d e : Nat} {v u : Value} (h : Nat.beq d e = false) : Sub ((e, u) :: (d, v) :: E) ((d, v) :: (e, u) :: E) := fun t x hx => by
  have hne : e ≠ d := by rintro rfl; simp at h
  simp only [look] at hx ⊢
  cases h1 : Nat.beq e t with
  | true =>
    have e1 : e = t := Nat.eq_of_beq_eq_true h1
    subst e1
    simp only [h1] at hx ⊢
    simp only [h]
    exact hx
  | false =>
    simp only [h1] at hx ⊢
    exact hx

theorem Skips.undef {ops : Array Oper} {E : Env} {o : Oper} {j t : Nat} {want : Bool} (h : o.guard = some (j, want)) (hj : (ops[j]?).bind (·.dst) = some t) (hb : look E t = some undef) : Skips ops E o := fun a ha => by
  have h1 := ha t _ hb
  have h2 : yielded ops a.tmps j = none := by
    unfold yielded
    cases ho : ops[j]? with
    | none => rfl
    | some o' =>
      rw [ho] at hj
      simp only [Option.bind_some] at hj ⊢
      rw [hj]
      simp only [Option.bind_some]
      simp only [Array.getD_eq_getD_getElem?] at h1
      cases hq : a.tmps[t]? with
      | none => rfl
      | some u => rw [hq] at h1; simp at h1; subst h1; rfl
  simp [Region.wanted, h, h2]
/-- An operation of the head whose guard says no. -/
theorem RH.s {d : Nat} {op : Op} {ty : TypeId} {pos : String} {af : Array Edge} {g : Option (Nat × Bool)} {lo : List Oper} {S : World → Prop} {n i : Nat} {tl : List Oper} {l : List Nat} {E : Env} {w : World} (hh : Head N lo.toArray n tl) (hc : Calm Q) (ho : lo[i]? = some ⟨some d, op, ty, pos, af, g⟩) (hb : stepQ lo.toArray n i l = true)
    (hs : Skips lo.toArray E ⟨some d, op, ty, pos, af, g⟩) (h : RH ρ P N D lo.toArray Q S n tl l ((d, undef) :: E) w) : RH ρ P N D lo.toArray Q S n tl (i :: l) E w := fun hS a ha listed hl inv => by
  subst hl
  have ho : lo.toArray[i]? = some ⟨some d, op, ty, pos, af, g⟩ := by simpa using ho
  simp only [stepQ, Bool.and_eq_true, decide_eq_true_eq, List.contains_iff_mem] at hb
  obtain ⟨⟨⟨hin, hrd⟩, hf⟩, hset⟩ := hb
  have hdo : dstOK N ⟨some d, op, ty, pos, af, g⟩ = true := Array.all_eq_true_iff_forall_mem.1 hh.2.1 _ (Array.mem_of_getElem? ho)
  have hinv := inv.set hrd hin
  rw [hset] at hinv
  have H := h hS _ (ha.put hdo undef) _ rfl hinv
  rw [← hset] at H
  refine wpM_first ho hh.1.2 (Region.noSelect_spec hh.1.1) (fun c a w => hc c a _ _ w) hh.2.2.1 hin ?_ _ _ _ _ inv (Region.free_spec ho hf) hrd (.inr ⟨hs a ha.knows, rfl⟩) hS H
  intro listed a w hL j hj
  exact seqB_ready hL.1 j hj

def step2 (ops : Array Oper) (n i j : Nat) (l : List Nat) : Bool :=
  decide (i < n) && decide (j < n) && decide (Region.ready .any ops (listedBut ops n (i :: j :: l)) = [i, j]) &&
  decide (Region.ready .any ops ((listedBut ops n (i :: j :: l)).setIfInBounds i true) = [j]) && decide (Region.ready .any ops ((listedBut ops n (i :: j :: l)).setIfInBounds j true) = [i]) &&
  decide (((listedBut ops n (i :: j :: l)).setIfInBounds i true).setIfInBounds j true = listedBut ops n l) && decide (((listedBut ops n (i :: j :: l)).setIfInBounds j true).setIfInBounds i true = listedBut ops n l)
theorem RH.alloc2 {oo : World} {lo : List Oper} {S : World → Prop} {n i j : Nat} {tl : List Oper} {l : List Nat} {E : Env} {w : World} {L : List HP} {ti tj di dj : Nat} {zi zj : Value} {tyi tyj : TypeId} {pi pj : String} {ai aj : Array Edge} [hzi : TZ P ti zi] [hzj : TZ P tj zj]
    (hh : Head N lo.toArray n tl) (hoi : lo[i]? = some ⟨some di, .alloc ti, tyi, pi, ai, none⟩) (hoj : lo[j]? = some ⟨some dj, .alloc tj, tyj, pj, aj, none⟩) (hb : step2 lo.toArray n i j l = true) (hne : Nat.beq di dj = false) (hS : Sat oo w L)
    (hmid : ∀ b o w', Sat oo w' (pt b o :: L) → S w')
    (h : ∀ bi bj w', Sat oo w' (pt bj (.cells zj.cells tj (0, 0)) :: pt bi (.cells zi.cells ti (0, 0)) :: L) → S w' ∧ RH ρ P N D lo.toArray Q S n tl l ((dj, .pointer (some ⟨bj, 0, none⟩)) :: (di, .pointer (some ⟨bi, 0, none⟩)) :: E) w') :
    RH ρ P N D lo.toArray Q S n tl (i :: j :: l) E w := fun _ a ha listed hl inv => by
  subst hl
  have hoi : lo.toArray[i]? = some ⟨some di, .alloc ti, tyi, pi, ai, none⟩ := by simpa using hoi
  have hoj : lo.toArray[j]? = some ⟨some dj, .alloc tj, tyj, pj, aj, none⟩ := by simpa using hoj
  simp only [step2, Bool.and_eq_true, decide_eq_true_eq] at hb
  obtain ⟨⟨⟨⟨⟨⟨hin, hjn⟩, hr0⟩, hr1⟩, hr2⟩, hs1⟩, hs2⟩ := hb
  have hdi : dstOK N ⟨some di, .alloc ti, tyi, pi, ai, none⟩ = true := Array.all_eq_true_iff_forall_mem.1 hh.2.1 _ (Array.mem_of_getElem? hoi)
  have hdj : dstOK N ⟨some dj, .alloc tj, tyj, pj, aj, none⟩ = true := Array.all_eq_true_iff_forall_mem.1 hh.2.1 _ (Array.mem_of_getElem? hoj)
  have iv1 := inv.set (i := i) (by rw [hr0]; simp) hin
  have iv2 := inv.set (i := j) (by rw [hr0]; simp) hjn
  have iv12 := iv1.set (i := j) (by rw [hr1]; simp) hjn
  rw [hs1] at iv12
  refine ⟨by rw [hr0]; simp, fun k hk => ?_⟩
  rw [hr0] at hk
  simp only [List.mem_cons, List.not_mem_nil, or_false] at hk
  rcases hk with rfl | rfl
  · refine ⟨hin, ?_⟩
    unfold wpOpIn
    simp only [hoi]
    rw [if_pos (Runs.plain (E := E) rfl a ha.knows)]
    refine Ef.alloc (P := P) (N := N) (D := D) (E := E) hS ρ a ha _ _ ?_
    rintro v w1 ⟨b, rfl, hS1⟩
    have ha1 := ha.put hdi (.pointer (some ⟨b, 0, none⟩))
    refine ⟨hmid _ _ _ hS1, by rw [hr1]; simp, fun k hk => ?_⟩
    rw [hr1] at hk
    have hkj : k = j := by simpa using hk
    subst hkj
    refine ⟨hjn, ?_⟩
    unfold wpOpIn
    simp only [hoj]
    rw [if_pos (by simp [Region.wanted])]
    refine Ef.alloc (P := P) (N := N) (D := D) hS1 ρ _ ha1 _ _ ?_
    rintro v w2 ⟨b', rfl, hS2⟩
    obtain ⟨g1, g2⟩ := h b b' w2 hS2
    refine ⟨g1, ?_⟩
    rw [hs1]
    exact g2 g1 _ (ha1.put hdj _) _ rfl iv12
  · refine ⟨hjn, ?_⟩
    unfold wpOpIn
    simp only [hoj]
    rw [if_pos (Runs.plain (E := E) rfl a ha.knows)]
    refine Ef.alloc (P := P) (N := N) (D := D) (E := E) hS ρ a ha _ _ ?_
    rintro v w1 ⟨b, rfl, hS1⟩
    have ha1 := ha.put hdj (.pointer (some ⟨b, 0, none⟩))
    refine ⟨hmid _ _ _ hS1, by rw [hr2]; simp, fun k hk => ?_⟩
    rw [hr2] at hk
    have hki : k = i := by simpa using hk
    subst hki
    refine ⟨hin, ?_⟩
    unfold wpOpIn
    simp only [hoi]
    rw [if_pos (by simp [Region.wanted])]
    refine Ef.alloc (P := P) (N := N) (D := D) hS1 ρ _ ha1 _ _ ?_
    rintro v w2 ⟨b', rfl, hS2⟩
    obtain ⟨g1, g2⟩ := h b' b w2 hS2.swap
    refine ⟨g1, ?_⟩
    rw [hs2]
    exact g2 g1 _ ((ha1.put hdi _).sub (look_swap hne)) _ rfl iv12
end
end Go.Gx

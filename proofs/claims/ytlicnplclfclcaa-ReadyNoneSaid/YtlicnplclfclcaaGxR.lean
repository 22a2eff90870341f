/- A range over a function: the iterator's contract, the loop's rule, a round's ways out, leaving a function that holds such a loop. No condition; nothing of any program stands here. -/
import Derived.Test.YtlicnplclfclcaaGxE
namespace Go.Gx
open Go
variable {oo : World}

section
variable {P : Program} {N : Nat} {D : List Deferred} {Q : Exit → Act → World → Prop} {E : Env} {w : World} {dst : Option Nat} {ty : TypeId} {pos : String} {af : Array Edge} {g : Option (Nat × Bool)} {L : List HP}

/-- A call of yield: its round. -/
def Yd (P : Program) (l : Nat) (args : Array Value) (w : World) (R : Value → World → Prop) : Prop :=
  ∃ fn tmps assign body, (Instr.yield l args).run P w = .ok (.round l fn tmps assign body) w ∧ RoundIn (FW none) 0 P l fn tmps assign body w (fun e w' => ∃ v, e = .returned v ∧ R v w')

theorem args_eval {a : Act} (ha : Knows a E) {args : Array Operand} {vs : Array Value} (hvs : args.toList.map (ev E) = vs.toList.map some) : args.map a.eval = vs := by
  apply Array.ext'
  simp only [Array.toList_map]
  apply List.ext_getElem?
  intro i
  have h1 : (args.toList.map (ev E))[i]? = (vs.toList.map some)[i]? := by rw [hvs]
  simp only [List.getElem?_map] at h1 ⊢
  cases hi : args.toList[i]? with
  | none =>
    rw [hi] at h1
    simp only [Option.map_none] at h1 ⊢
    cases hj : vs.toList[i]? with
    | none => rfl
    | some u => rw [hj] at h1; simp at h1
  | some y =>
    rw [hi] at h1
    simp only [Option.map_some] at h1 ⊢
    cases hj : vs.toList[i]? with
    | none => rw [hj] at h1; simp at h1
    | some u =>
      rw [hj] at h1
      simp only [Option.map_some, Option.some.injEq] at h1
      rw [ha.ev h1]

theorem Ef.yield {x : Operand} {args : Array Operand} {at' : Array TypeId} {vs : Array Value} {l : Nat} {R : Value → World → Prop} (hx : ev E x = some (.func (.yield l) #[] #[])) (hvs : args.toList.map (ev E) = vs.toList.map some) (h : Yd P l vs w R) :
    Ef P N D E w ⟨dst, .call ⟨.value x, args, at'⟩, ty, pos, af, g⟩ R := fun ρ a ha K Q hK => by
  obtain ⟨fn, tmps, assign, body, hy, hR⟩ := h
  have hrun : (execOp a.eval ⟨dst, .call ⟨.value x, args, at'⟩, ty, pos, af, g⟩).run P w = .ok (.round l fn tmps assign body) w := by
    simp [execOp, resolve, ha.knows.ev hx, args_eval ha.knows hvs, Deferred.ofValue, invoke, hy]
  refine ⟨fun _ _ => trivial, ?_⟩
  rw [Oper.semAt_eq _ _ _ (fun c hc => by cases hc), hrun, Oper.uponIn_round]
  refine ⟨fun h => (by cases h), ?_⟩
  refine RoundIn.mono (F := FW ρ) hR ?_
  rintro e w' ⟨v, rfl, hv⟩
  exact hK v w' hv

/-- What an iterator hands back: all rounds have been, or one has said no. -/
def itR (oo : World) (pre : List HP) (J : Nat → HP) (n : Nat) (X : HP) : Ending → World → Prop := fun e w' => ∃ v, e = .returned v ∧ (Sat oo w' (pre ++ [J n]) ∨ Sat oo w' (pre ++ [X]))

/-- The iterator f with what it has captured yields xs, one by one, and leaves its own pieces as they are. -/
def It (P : Program) (f : FuncId) (cap : Array Value) (pre : List HP) (xs : List (Array Value)) : Prop :=
  ∀ (oo : World) (l : Nat) (J : Nat → HP) (X : HP) (w : World),
    (∀ k (hk : k < xs.length) w, Sat oo w (pre ++ [J k]) → Yd P l xs[k] w (fun v w' => (v = .bool true ∧ Sat oo w' (pre ++ [J (k + 1)])) ∨ (v = .bool false ∧ Sat oo w' (pre ++ [X])))) →
    Sat oo w (pre ++ [J 0]) → CallsIn (FW none) 0 P f (#[Value.func (.yield l) #[] #[]] ++ cap) w (itR oo pre J xs.length X)

theorem It.enter {f : FuncId} {fn : Func} {c : Code} {cap : Array Value} {pre : List HP} {xs : List (Array Value)} (hf : P.funcs[f]? = some fn) (hb : fn.body = some c) (hN : (#[Value.nilFunc] ++ cap).size ≤ fn.ntmps)
    (h : ∀ oo l J X w, (∀ k (hk : k < xs.length) w, Sat oo w (pre ++ [J k]) → Yd P l xs[k] w (fun v w' => (v = .bool true ∧ Sat oo w' (pre ++ [J (k + 1)])) ∨ (v = .bool false ∧ Sat oo w' (pre ++ [X])))) →
      Sat oo w (pre ++ [J 0]) → RC none P fn.ntmps [] (bodyP P fn (itR oo pre J xs.length X)) c (initE 0 (#[Value.func (.yield l) #[] #[]] ++ cap).toList) w) : It P f cap pre xs := fun oo l J X w hr hS => by
  have hs : (#[Value.func (.yield l) #[] #[]] ++ cap).size ≤ fn.ntmps := by simpa using hN
  generalize hargs : #[Value.func (.yield l) #[] #[]] ++ cap = args at hs
  have h1 := h oo l J X w hr hS
  rw [hargs] at h1
  have hA : Agree fn.ntmps [] { tmps := args ++ Array.replicate (fn.ntmps - args.size) undef, defers := [] } (initE 0 args.toList) := by
    refine ⟨?_, rfl, ?_⟩
    · simp; omega
    · intro t v hv
      obtain ⟨_, h2⟩ := initE_look _ _ _ _ hv
      simp only [Nat.sub_zero] at h2
      have hlt : t < args.size := by
        rcases Nat.lt_or_ge t args.size with h | h
        · exact h
        · rw [List.getElem?_eq_none (by simpa using h)] at h2; cases h2
      have h3 : args[t]? = some v := by simpa using h2
      simp [Array.getElem?_append_left hlt, h3]
  exact callsIn_of_wp_marks (F := FW none) hf hb trivial (wpIn_mono (h1 _ hA) (fun e a w' hq => by cases e <;> first | exact hq | exact hq.elim))

theorem RE.retI {fn : Func} {pre : List HP} {J : Nat → HP} {n : Nat} {X : HP} {vs : List Value} (hr : resV E fn.results.toList = some vs) (hS : Sat oo w (pre ++ [J n]) ∨ Sat oo w (pre ++ [X])) : RE N [] (bodyP P fn (itR oo pre J n X)) .ret E w := fun a ha => by
  show LeavesInM _ _ _ _ _ _ a.defers _ _
  rw [ha.defers]
  exact ⟨_, run_results ha.knows hr w, _, rfl, hS⟩
theorem RE.endI {fn : Func} {pre : List HP} {J : Nat → HP} {n : Nat} {X : HP} {vs : List Value} (hr : resV E fn.results.toList = some vs) (hS : Sat oo w (pre ++ [J n]) ∨ Sat oo w (pre ++ [X])) : RE N [] (bodyP P fn (itR oo pre J n X)) .normal E w := fun a ha => by
  show LeavesInM _ _ _ _ _ _ a.defers _ _
  rw [ha.defers]
  exact ⟨_, run_results ha.knows hr w, _, rfl, hS⟩

/-! ### The loop -/
def mk (b : Nat) : Deferred := { target := .collected b, args := #[] }
def df (b : Nat) : HP := pt b (.deferred (some []))

theorem Sat.dropLast {A : List HP} {p : HP} (h : Sat oo w (A ++ [p])) : Sat oo w A := by
  refine h.sel (List.range A.length) List.nodup_range ?_
  apply List.ext_getElem?
  intro i
  simp only [List.getElem?_map]
  by_cases hi : i < A.length
  · rw [List.getElem?_range hi, List.getElem?_eq_getElem hi]
    simp only [Option.map_some]
    rw [List.getElem?_append_left hi, List.getElem?_eq_getElem hi]
  · rw [List.getElem?_eq_none (by simpa using hi), List.getElem?_eq_none (by simpa using hi)]; rfl

theorem Sat.putObj {k b : Nat} {o o' : Obj} (h : Sat oo w L) (hk : L[k]? = some (pt b o)) : Sat oo (w.putObj b o') (L.set k (pt b o')) := by
  have hb := h.get k hk
  have hlt := (Array.getElem?_eq_some_iff.1 hb).1
  exact h.put k hk o' (World.putObj_heap_same hlt) (fun c hc => World.putObj_heap_other hc) ⟨rfl, rfl, rfl⟩

/-- What is asked behind the assignment to the loop's variables: the round begins. -/
def asP (P : Program) (l : Nat) (body : Code) (Q : Exit → Act → World → Prop) : Exit → Act → World → Prop :=
  Exit.then (fun a₁ w₁ => ∃ w₂, (Instr.beginRound l).run P w₁ = .ok () w₂ ∧ body.wpIn (FW (some l)) 0 P Q a₁ w₂) (fun _ _ _ => False)
theorem Calm.as {l : Nat} {body : Code} : Calm (asP P l body Q) := fun _ _ _ _ _ hq => hq.elim
theorem RE.begin {l k : Nat} {r : Loop} {body : Code} (hS : Sat oo w L) (hk : L[k]? = some (pt l (.loop r))) (hr : r.state = .ready)
    (h : ∀ w', Sat oo w' (L.set k (pt l (.loop { r with state := .busy }))) → RC (some l) P N [] Q body E w') : RE N [] (asP P l body Q) .normal E w := fun a ha =>
  ⟨_, run_beginRound (hS.get k hk) hr, h _ (hS.putObj hk) a ha⟩

/-- What a round comes to: it goes on with the next one's pieces, or it leaves by a jump that is let out. -/
def rdR (oo : World) (l : Nat) (r : Loop) (I' : List HP) (Xc : Code → List HP → Prop) : Ending → World → Prop := fun e w' => ∃ v, e = .returned v ∧
  ((v = .bool true ∧ Sat oo w' (I' ++ [pt l (.loop r)])) ∨ (v = .bool false ∧ ∃ c ps, Xc c ps ∧ Sat oo w' (ps ++ [pt l (.loop { r with state := .done, pending := some c })])))
def rdP (oo : World) (P : Program) (l : Nat) (r : Loop) (I' : List HP) (Xc : Code → List HP → Prop) : Exit → Act → World → Prop := fun e a w =>
  match e with
  | .panic _ => False
  | _ => roundPost P l (rdR oo l r I' Xc) e a w
theorem Calm.rd {l : Nat} {r : Loop} {I' : List HP} {Xc : Code → List HP → Prop} : Calm (rdP oo P l r I' Xc) := fun _ _ _ _ _ hq => hq.elim
theorem RE.rdN {l : Nat} {r : Loop} {I' : List HP} {Xc : Code → List HP → Prop} (hr : r.state = .ready ∧ r.pending = none) (hS : Sat oo w (I' ++ [pt l (.loop { r with state := .busy })])) : RE N [] (rdP oo P l r I' Xc) .normal E w := fun a _ => by
  have hk : (I' ++ [pt l (.loop { r with state := .busy })])[I'.length]? = some (pt l (.loop { r with state := .busy })) := by simp
  refine ⟨_, _, run_endRound none (hS.get I'.length hk), .bool true, rfl, .inl ⟨rfl, ?_⟩⟩
  have := hS.putObj (o' := .loop { ({ r with state := .busy } : Loop) with state := if (none : Option Code).isNone then .ready else .done, pending := none }) hk
  rw [List.set_append_right _ _ (Nat.le_refl _), Nat.sub_self] at this
  have e : ({ ({ r with state := .busy } : Loop) with state := if (none : Option Code).isNone then .ready else .done, pending := none } : Loop) = r := by
    obtain ⟨h1, h2⟩ := hr
    cases r
    simp at h1 h2
    subst h1; subst h2
    rfl
  rw [e] at this ⊢
  exact this
theorem RE.rdJ {l : Nat} {r : Loop} {I' : List HP} {Xc : Code → List HP → Prop} {ps : List HP} (c : Code) {e : Exit} (hc : (e = .ret ∧ c = .ret) ∨ (∃ id, e = .exit id ∧ c = .exit id)) (hX : Xc c ps) (hS : Sat oo w (ps ++ [pt l (.loop { r with state := .busy })])) : RE N [] (rdP oo P l r I' Xc) e E w := fun a _ => by
  have hk : (ps ++ [pt l (.loop { r with state := .busy })])[ps.length]? = some (pt l (.loop { r with state := .busy })) := by simp
  have h1 := run_endRound (P := P) (some c) (hS.get ps.length hk)
  have h2 := hS.putObj (o' := .loop { ({ r with state := .busy } : Loop) with state := if (some c).isNone then .ready else .done, pending := some c }) hk
  rw [List.set_append_right _ _ (Nat.le_refl _), Nat.sub_self] at h2
  rcases hc with ⟨rfl, rfl⟩ | ⟨id, rfl, rfl⟩
  · exact ⟨_, _, h1, .bool false, rfl, .inr ⟨rfl, _, ps, hX, h2⟩⟩
  · exact ⟨_, _, h1, .bool false, rfl, .inr ⟨rfl, _, ps, hX, h2⟩⟩

def putPs (l : List (Nat × Value)) (E : Env) : Env := l.foldl (fun E p => p :: E) E
theorem agree_params {tmps : Array Value} (l : List (Nat × Value)) (hl : ∀ p ∈ l, p.1 < N) (ha : Agree N [] ⟨tmps, []⟩ E) : Agree N [] ⟨l.foldl (fun t p => t.setIfInBounds p.1 p.2) tmps, []⟩ (putPs l E) := by
  induction l generalizing tmps E with
  | nil => exact ha
  | cons p l ih =>
    refine ih (fun q hq => hl q (by simp [hq])) ?_
    have := ha.put (o := ⟨some p.1, .move (.const p.2), 0, "", #[], none⟩) (by simpa [dstOK] using hl p (by simp)) p.2
    simpa [Act.put, putE] using this

/-- The rule of the loop. -/
theorem RC.rangeFn {gx : Operand} {ps : Array Tmp} {assign body : Code} {f : FuncId} {cap : Array Value} {pre rest : List HP} {xs : List (Array Value)} (hS : Sat oo w L) (hIt : It P f cap pre xs) (hg : ev E gx = some (.func (.func f) #[] cap))
    (hcall : ∀ (args : Array Value) (w : World), (callFunc f args).run P w = .ok (.enter f args) w) (s t : List Nat) (hn : (s ++ t).Nodup) (hs : selL L s = some pre) (ht : selL L t = some rest)
    (hps : ∀ x ∈ xs, x.size = ps.size) (hpN : ∀ t ∈ ps.toList, t < N) (I : Nat → List HP) (hI : I 0 = rest) (Xc : Code → List HP → Prop)
    (hround : ∀ k (hk : k < xs.length) l b (r : Loop) w1, (r.state = .ready ∧ r.pending = none) → Sat oo w1 (pre ++ I k ++ [df b] ++ [pt l (.loop r)]) →
      RC (some l) P N [] (asP P l body (rdP oo P l r (pre ++ I (k + 1) ++ [df b]) (fun c q => ∃ q', Xc c q' ∧ q = pre ++ q' ++ [df b]))) assign (putPs (ps.toList.zip (xs[k]).toList) E) w1)
    (hdone : ∀ b w1, Sat oo w1 (pre ++ I xs.length ++ [df b]) → RE N (mk b :: D) Q .normal E w1)
    (hstop : ∀ c q b w1, Xc c q → Sat oo w1 (pre ++ q ++ [df b]) → RC none P N (mk b :: D) Q c E w1) : RC none P N D Q (.rangeFunc gx ps assign body) E w := fun a ha => by
  refine wpIn_rangeFunc (F := FW none) fun fn _ => ?_
  let r : Loop := { state := .ready, pending := none, fn, tmps := a.tmps, params := ps, assign, body, defers := w.heap.size }
  let l := w.heap.size + 1
  let w1 := (w.alloc (.deferred (some []))).alloc (.loop r)
  have hl : (w.alloc (.deferred (some []))).heap.size = l := by simp [l]
  have h1 : Sat oo w1 (pt l (.loop r) :: df w.heap.size :: L) := by
    have := (hS.new (.deferred (some [])) (w' := w.alloc (.deferred (some []))) rfl).new (.loop r) (w' := w1) rfl
    rwa [hl] at this
  have h2 : Sat oo w1 (pre ++ (I 0 ++ [df w.heap.size] ++ [pt l (.loop r)])) := by
    refine h1.sel (((s.map (· + 2)) ++ (t.map (· + 2)) ++ [1]) ++ [0]) ?_ ?_
    · rw [← List.map_append]
      have hm : ((s ++ t).map (· + 2)).Nodup := by
        rw [List.Nodup, List.pairwise_map]
        exact hn.imp fun h e => h (by omega)
      rw [List.nodup_append, List.nodup_append]
      refine ⟨⟨hm, by simp, ?_⟩, by simp, ?_⟩
      · intro x hx y hy
        simp at hx hy
        omega
      · intro x hx y hy
        simp at hx hy
        omega
    · have e1 := selL_map _ _ hs
      have e2 := selL_map _ _ ht
      rw [hI]
      simp only [List.map_append, List.map_map, List.map_cons, List.map_nil, List.append_assoc]
      rw [← e1, ← e2]; rfl
  have hr : r.state = .ready ∧ r.pending = none := ⟨rfl, rfl⟩
  have hev := ha.knows.ev hg
  have hres : (resolve a.eval (rangeCall gx l) 0).run P w1 = .ok { target := .fn (.func f) cap, args := #[Value.func (.yield l) #[] #[]] } w1 := by
    unfold resolve
    simp only [hev]
    simp [Deferred.ofValue, Act.eval]
  have hinv : (invoke (.fn (.func f) cap) #[Value.func (.yield l) #[] #[]]).run P w1 = .ok (.enter f (#[Value.func (.yield l) #[] #[]] ++ cap)) w1 := by
    simp only [invoke, hcall]
  refine ⟨l, [mk w.heap.size], w1, { target := .fn (.func f) cap, args := #[Value.func (.yield l) #[] #[]] }, w1, f, #[Value.func (.yield l) #[] #[]] ++ cap, w1, run_enterLoop_outer fn a.tmps ps assign body, hres, fun _ _ => trivial, hinv, fun h => (by cases h), ?_⟩
  let X : HP := fun F => ∃ c : Code × List HP, Xc c.1 c.2 ∧ Star (c.2 ++ [df w.heap.size] ++ [pt l (.loop { r with state := .done, pending := some c.1 })]) F
  have hcalls := hIt oo l (fun k => Star (I k ++ [df w.heap.size] ++ [pt l (.loop r)])) X w1 ?_ h2.join
  · refine hcalls.mono ?_
    rintro e w3 ⟨v, rfl, h3 | h3⟩
    · have h4 := h3.split
      rw [← List.append_assoc] at h4
      have hk : (pre ++ (I xs.length ++ [df w.heap.size]) ++ [pt l (.loop r)])[(pre ++ (I xs.length ++ [df w.heap.size])).length]? = some (pt l (.loop r)) := by simp
      refine ⟨none, _, run_endLoop (h4.get _ hk) (by simp [r]), ?_⟩
      have h5 := h4.putObj (o' := .loop { r with state := .exhausted }) hk
      rw [List.set_append_right _ _ (Nat.le_refl _), Nat.sub_self] at h5
      refine hdone w.heap.size _ ?_ _ ⟨ha.size, by rw [ha.defers]; rfl, ha.knows⟩
      simpa [List.append_assoc] using h5.dropLast
    · obtain ⟨⟨c, q⟩, h4⟩ := h3.ex (α := Code × List HP) pre.length (p := X) (q := fun c F => Xc c.1 c.2 ∧ Star (c.2 ++ [df w.heap.size] ++ [pt l (.loop { r with state := .done, pending := some c.1 })]) F) (by simp) (fun F h => h)
      rw [List.set_append_right _ _ (Nat.le_refl _), Nat.sub_self] at h4
      have hX := h4.fact pre.length (p := fun F => Xc c q ∧ Star (q ++ [df w.heap.size] ++ [pt l (.loop { r with state := .done, pending := some c })]) F) (by simp) (fun F h => h.1)
      have h5 := h4.imp pre.length (p := fun F => Xc c q ∧ Star (q ++ [df w.heap.size] ++ [pt l (.loop { r with state := .done, pending := some c })]) F) (p' := Star (q ++ [df w.heap.size] ++ [pt l (.loop { r with state := .done, pending := some c })])) (by simp) (fun F h => h.2)
      rw [List.set_append_right _ _ (Nat.le_refl _), Nat.sub_self] at h5
      have h6 := Sat.split (A := pre) h5
      rw [← List.append_assoc] at h6
      have hk : (pre ++ (q ++ [df w.heap.size]) ++ [pt l (.loop { r with state := .done, pending := some c })])[(pre ++ (q ++ [df w.heap.size])).length]? = some (pt l (.loop { r with state := .done, pending := some c })) := by simp
      refine ⟨some c, _, run_endLoop (h6.get _ hk) (by simp), ?_⟩
      have h7 := h6.putObj (o' := .loop { ({ r with state := .done, pending := some c } : Loop) with state := .exhausted }) hk
      rw [List.set_append_right _ _ (Nat.le_refl _), Nat.sub_self] at h7
      refine hstop c q w.heap.size _ hX ?_ _ ⟨ha.size, by rw [ha.defers]; rfl, ha.knows⟩
      simpa [List.append_assoc] using h7.dropLast
  · intro k hk w2 h3
    have h4 := h3.split
    have h5 : Sat oo w2 (pre ++ I k ++ [df w.heap.size] ++ [pt l (.loop r)]) := by simpa [List.append_assoc] using h4
    have hlk : (pre ++ I k ++ [df w.heap.size] ++ [pt l (.loop r)])[(pre ++ I k ++ [df w.heap.size]).length]? = some (pt l (.loop r)) := by simp
    have hsz := hps _ (List.getElem_mem hk)
    refine ⟨fn, _, assign, body, run_yield (h5.get _ hlk) hsz, ?_⟩
    refine RoundIn.mono (roundIn_of_wpIn (F := FW none) trivial (R := rdR oo l r (pre ++ I (k + 1) ++ [df w.heap.size]) (fun c q => ∃ q', Xc c q' ∧ q = pre ++ q' ++ [df w.heap.size])) ?_) ?_
    · have hA : Agree N [] ⟨(ps.zip xs[k]).foldl (fun tmps (t, a) => tmps.setIfInBounds t a) a.tmps, []⟩ (putPs (ps.toList.zip (xs[k]).toList) E) := by
        rw [← Array.toList_zip]
        have := agree_params (N := N) (E := E) (tmps := a.tmps) (ps.zip xs[k]).toList (fun p hp => by
          have := (List.of_mem_zip (by simpa using hp : (p.1, p.2) ∈ ps.toList.zip (xs[k]).toList)).1
          exact hpN _ this) ⟨ha.size, rfl, ha.knows⟩
        rwa [Array.foldl_toList] at this
      have h6 := hround k hk l w.heap.size r w2 hr h5 _ hA
      refine wpIn_mono (F := (FW none).inRound l) h6 ?_
      intro e a1 w4 hq
      cases e with
      | normal =>
        obtain ⟨w5, hb, hq⟩ := hq
        refine ⟨w5, hb, wpIn_mono (F := (FW none).inRound l) hq ?_⟩
        intro e a1 w4 hq
        cases e <;> first | exact hq | exact hq.elim
      | _ => exact hq
    · rintro e w4 ⟨v, rfl, ⟨rfl, h7⟩ | ⟨rfl, c, q, ⟨q', hX, rfl⟩, h7⟩⟩
      · refine ⟨_, rfl, .inl ⟨rfl, ?_⟩⟩
        have h8 : Sat oo w4 (pre ++ (I (k + 1) ++ [df w.heap.size] ++ [pt l (.loop r)])) := by simpa [List.append_assoc] using h7
        exact h8.join
      · refine ⟨_, rfl, .inr ⟨rfl, ?_⟩⟩
        have h8 : Sat oo w4 (pre ++ (q' ++ [df w.heap.size] ++ [pt l (.loop { r with state := .done, pending := some c })])) := by simpa [List.append_assoc] using h7
        have h9 := h8.join.imp pre.length (p := Star (q' ++ [df w.heap.size] ++ [pt l (.loop { r with state := .done, pending := some c })])) (p' := X) (by simp) (fun F h => ⟨(c, q'), hX, h⟩)
        rwa [List.set_append_right _ _ (Nat.le_refl _), Nat.sub_self] at h9

/-- Leaving a function that holds one such loop. -/
theorem RE.retM {fn : Func} {post : Value → List HP → Prop} {R : HP} {vs : List Value} {ps : List HP} {k b : Nat} (hS : Sat oo w L) (hk : L[k]? = some (df b)) (hr : resV E fn.results.toList = some vs) (hp : post (oneOf vs) ps) (s : List Nat) (hn : s.Nodup) (hs : selL (L.set k (pt b (.deferred none))) s = some (ps ++ [R])) : RE N [mk b] (bodyP P fn (endR oo post R)) .ret E w := fun a ha => by
  show LeavesInM _ _ _ _ _ _ a.defers _ _
  rw [ha.defers]
  refine ⟨by simp, .inl ⟨b, _, rfl, run_takeDeferred (hS.get k hk), ?_⟩⟩
  exact ⟨_, run_results ha.knows hr _, _, _, rfl, hp, (hS.putObj (o' := .deferred none) hk).pick s hn hs⟩
end
end Go.Gx

/- Scopes and labels that no jump leaves; two new blocks in either order. No condition; nothing of any program stands here. -/
import Derived.Test.YtlicnplclfclcaaGxR
import Derived.Scope
namespace Go.Gx
open Go

theorem stepR_scope {P : Program} {b : Frame} {a : Act} {k : List Item} {cs : List Frame} {w : World} {c : Code} :
    step P (lone (b.atR a (.code (.scope c) :: k)) cs w) = .next (lone (b.atR a (.code c :: .inScope c :: k)) cs w) :=
  step_lone_go (by simp [stepG, stepG.exec, Frame.atR])
theorem stepR_inScope {P : Program} {b : Frame} {a : Act} {k : List Item} {cs : List Frame} {w : World} {c : Code} :
    step P (lone (b.atR a (.inScope c :: k)) cs w) = .next (lone (b.atR a k) cs w) :=
  step_lone_go (by simp [stepG, stepG.exec, Frame.atR])
theorem wpIn_scope {F : Fence} {n : Nat} {P : Program} {Q : Exit → Act → World → Prop} {a : Act} {w : World} {c : Code} (h : c.wpIn F n P (Exit.noGoto Q) a w) : (Code.scope c).wpIn F n P Q a w := by
  intro b k cs hro hb hr
  have h0 : (lone (b.atR a (.code (.scope c) :: k)) cs w).fenced P F := fenced_calm hb hr rfl
  obtain ⟨e, a₁, w₁, hq, harr⟩ := h b (.inScope c :: k) cs hro hb hr
  cases e with
  | normal => exact ⟨.normal, a₁, w₁, hq, .head h0 stepR_scope (StepsIn.trans harr (.one (fenced_calm hb hr rfl) stepR_inScope))⟩
  | exit id =>
    have hx : exitTo id (.inScope c :: k) = exitTo id k := by simp [exitTo]
    exact ⟨.exit id, a₁, w₁, hq, fun k' hk => .head h0 stepR_scope (harr.1 k' (by rw [hx]; exact hk)),
      fun hr' hk => let ⟨k₁, h1, h2⟩ := harr.2 hr' (by rw [hx]; exact hk); ⟨k₁, h1, .head h0 stepR_scope h2⟩⟩
  | goto l => exact hq.elim
  | ret => exact ⟨_, a₁, w₁, hq, .of_steps (.one h0 stepR_scope) harr⟩
  | panic ch => exact ⟨_, a₁, w₁, hq, .of_steps (.one h0 stepR_scope) harr⟩
  | outgrown => exact ⟨_, a₁, w₁, hq, .of_steps (.one h0 stepR_scope) harr⟩

/-- A load where the block itself may change, the cell not. -/
theorem Qt.ldE {P : Program} {S : World → Prop} {E : Env} {dst : Option Nat} {ty : TypeId} {pos : String} {af : Array Edge} {g : Option (Nat × Bool)} {t : Nat} {x : Operand} {b off n : Nat} {d : TypeDesc} {v : Value} [ht : TI P t d n] (hx : ev E x = some (.pointer (some ⟨b, off, none⟩)))
    (hw : ∀ w, S w → ∃ c T fz, w.heap[b]? = some (.cells c T fz) ∧ c.toList[off]? = some v) (hd : aggB d = false := by rfl) : Qt P S E ⟨dst, .load t x, ty, pos, af, g⟩ v := fun a ha w hS => by
  obtain ⟨c, T, fz, h1, h2⟩ := hw w hS
  have hv : c[off]? = some v := by simpa using h2
  have hc : w.cell? ⟨b, off, none⟩ = some v := (cell_of h1).trans hv
  simp [execOp, ha.ev hx, Instr.loadAt, Instr.sureAddr, loadVar, run_isAgg ht, hd, hc]

section
variable {ρ : Option Nat} {P : Program} {N : Nat} {D : List Deferred} {Q : Exit → Act → World → Prop}
def sc (Q : Exit → Act → World → Prop) : Exit → Act → World → Prop := Exit.noGoto Q
theorem RC.scope {c : Code} {E : Env} {w : World} (h : RC ρ P N D (sc Q) c E w) : RC ρ P N D Q (.scope c) E w := fun a ha => wpIn_scope (h a ha)
theorem RC.label {l : Nat} {E : Env} {w : World} (h : RE N D Q .normal E w) : RC ρ P N D Q (.label l) E w := fun a ha => wpIn_label (h a ha)
theorem RE.scN {E : Env} {w : World} (h : RE N D Q .normal E w) : RE N D (sc Q) .normal E w := fun a ha => h a ha
theorem RE.scX {id : Nat} {E : Env} {w : World} (h : RE N D Q (.exit id) E w) : RE N D (sc Q) (.exit id) E w := fun a ha => h a ha
theorem RE.scR {E : Env} {w : World} (h : RE N D Q .ret E w) : RE N D (sc Q) .ret E w := fun a ha => h a ha
theorem Calm.sc (h : Calm Q) : Calm (sc Q) := fun c a d v w hq => h c a d v w hq

theorem Sat.swap {oo w : World} {p q : HP} {L : List HP} (h : Sat oo w (p :: q :: L)) : Sat oo w (q :: p :: L) := by
  refine h.sel (1 :: 0 :: (List.range L.length).map (· + 2)) ?_ ?_
  · rw [List.nodup_cons, List.nodup_cons]
    refine ⟨by simp, by simp, nodup_shift _ _⟩
  · rw [List.map_cons, List.map_cons, List.map_cons, List.map_cons, List.map_map]
    congr 2
    apply List.ext_getElem
    · simp
    · intro i h1 h2
      simp at h1
      simp [h1]
theorem look_swap {E : Env} {d e : Nat} {v u : Value} (h : Nat.beq d e = false) : Sub ((e, u) :: (d, v) :: E) ((d, v) :: (e, u) :: E) := fun t x hx => by
  have hne : e ≠ d := by rintro rfl; simp at h
  simp only [look] at hx ⊢
  cases h1 : Nat.beq e t with
  | true =>
    have e1 : e = t := Nat.eq_of_beq_eq_true h1
    subst e1
    simp only [h1] at hx ⊢
    simp only [h]
    exact hx
  | false =>
    simp only [h1] at hx ⊢
    exact hx

theorem Skips.undef {ops : Array Oper} {E : Env} {o : Oper} {j t : Nat} {want : Bool} (h : o.guard = some (j, want)) (hj : (ops[j]?).bind (·.dst) = some t) (hb : look E t = some undef) : Skips ops E o := fun a ha => by
  have h1 := ha t _ hb
  have h2 : yielded ops a.tmps j = none := by
    unfold yielded
    cases ho : ops[j]? with
    | none => rfl
    | some o' =>
      rw [ho] at hj
      simp only [Option.bind_some] at hj ⊢
      rw [hj]
      simp only [Option.bind_some]
      simp only [Array.getD_eq_getD_getElem?] at h1
      cases hq : a.tmps[t]? with
      | none => rfl
      | some u => rw [hq] at h1; simp at h1; subst h1; rfl
  simp [Region.wanted, h, h2]
/-- An operation of the head whose guard says no. -/
theorem RH.s {d : Nat} {op : Op} {ty : TypeId} {pos : String} {af : Array Edge} {g : Option (Nat × Bool)} {lo : List Oper} {S : World → Prop} {n i : Nat} {tl : List Oper} {l : List Nat} {E : Env} {w : World} (hh : Head N lo.toArray n tl) (hc : Calm Q) (ho : lo[i]? = some ⟨some d, op, ty, pos, af, g⟩) (hb : stepQ lo.toArray n i l = true)
    (hs : Skips lo.toArray E ⟨some d, op, ty, pos, af, g⟩) (h : RH ρ P N D lo.toArray Q S n tl l ((d, undef) :: E) w) : RH ρ P N D lo.toArray Q S n tl (i :: l) E w := fun hS a ha listed hl inv => by
  subst hl
  have ho : lo.toArray[i]? = some ⟨some d, op, ty, pos, af, g⟩ := by simpa using ho
  simp only [stepQ, Bool.and_eq_true, decide_eq_true_eq, List.contains_iff_mem] at hb
  obtain ⟨⟨⟨hin, hrd⟩, hf⟩, hset⟩ := hb
  have hdo : dstOK N ⟨some d, op, ty, pos, af, g⟩ = true := Array.all_eq_true_iff_forall_mem.1 hh.2.1 _ (Array.mem_of_getElem? ho)
  have hinv := inv.set hrd hin
  rw [hset] at hinv
  have H := h hS _ (ha.put hdo undef) _ rfl hinv
  rw [← hset] at H
  refine wpM_first ho hh.1.2 (Region.noSelect_spec hh.1.1) (fun c a w => hc c a _ _ w) hh.2.2.1 hin ?_ _ _ _ _ inv (Region.free_spec ho hf) hrd (.inr ⟨hs a ha.knows, rfl⟩) hS H
  intro listed a w hL j hj
  exact seqB_ready hL.1 j hj

def step2 (ops : Array Oper) (n i j : Nat) (l : List Nat) : Bool :=
  decide (i < n) && decide (j < n) && decide (Region.ready .any ops (listedBut ops n (i :: j :: l)) = [i, j]) &&
  decide (Region.ready .any ops ((listedBut ops n (i :: j :: l)).setIfInBounds i true) = [j]) && decide (Region.ready .any ops ((listedBut ops n (i :: j :: l)).setIfInBounds j true) = [i]) &&
  decide (((listedBut ops n (i :: j :: l)).setIfInBounds i true).setIfInBounds j true = listedBut ops n l) && decide (((listedBut ops n (i :: j :: l)).setIfInBounds j true).setIfInBounds i true = listedBut ops n l)
theorem RH.alloc2 {oo : World} {lo : List Oper} {S : World → Prop} {n i j : Nat} {tl : List Oper} {l : List Nat} {E : Env} {w : World} {L : List HP} {ti tj di dj : Nat} {zi zj : Value} {tyi tyj : TypeId} {pi pj : String} {ai aj : Array Edge} [hzi : TZ P ti zi] [hzj : TZ P tj zj]
    (hh : Head N lo.toArray n tl) (hoi : lo[i]? = some ⟨some di, .alloc ti, tyi, pi, ai, none⟩) (hoj : lo[j]? = some ⟨some dj, .alloc tj, tyj, pj, aj, none⟩) (hb : step2 lo.toArray n i j l = true) (hne : Nat.beq di dj = false) (hS : Sat oo w L)
    (hmid : ∀ b o w', Sat oo w' (pt b o :: L) → S w')
    (h : ∀ bi bj w', Sat oo w' (pt bj (.cells zj.cells tj (0, 0)) :: pt bi (.cells zi.cells ti (0, 0)) :: L) → S w' ∧ RH ρ P N D lo.toArray Q S n tl l ((dj, .pointer (some ⟨bj, 0, none⟩)) :: (di, .pointer (some ⟨bi, 0, none⟩)) :: E) w') :
    RH ρ P N D lo.toArray Q S n tl (i :: j :: l) E w := fun _ a ha listed hl inv => by
  subst hl
  have hoi : lo.toArray[i]? = some ⟨some di, .alloc ti, tyi, pi, ai, none⟩ := by simpa using hoi
  have hoj : lo.toArray[j]? = some ⟨some dj, .alloc tj, tyj, pj, aj, none⟩ := by simpa using hoj
  simp only [step2, Bool.and_eq_true, decide_eq_true_eq] at hb
  obtain ⟨⟨⟨⟨⟨⟨hin, hjn⟩, hr0⟩, hr1⟩, hr2⟩, hs1⟩, hs2⟩ := hb
  have hdi : dstOK N ⟨some di, .alloc ti, tyi, pi, ai, none⟩ = true := Array.all_eq_true_iff_forall_mem.1 hh.2.1 _ (Array.mem_of_getElem? hoi)
  have hdj : dstOK N ⟨some dj, .alloc tj, tyj, pj, aj, none⟩ = true := Array.all_eq_true_iff_forall_mem.1 hh.2.1 _ (Array.mem_of_getElem? hoj)
  have iv1 := inv.set (i := i) (by rw [hr0]; simp) hin
  have iv2 := inv.set (i := j) (by rw [hr0]; simp) hjn
  have iv12 := iv1.set (i := j) (by rw [hr1]; simp) hjn
  rw [hs1] at iv12
  refine ⟨by rw [hr0]; simp, fun k hk => ?_⟩
  rw [hr0] at hk
  simp only [List.mem_cons, List.not_mem_nil, or_false] at hk
  rcases hk with rfl | rfl
  · refine ⟨hin, ?_⟩
    unfold wpOpIn
    simp only [hoi]
    rw [if_pos (Runs.plain (E := E) rfl a ha.knows)]
    refine Ef.alloc (P := P) (N := N) (D := D) (E := E) hS ρ a ha _ _ ?_
    rintro v w1 ⟨b, rfl, hS1⟩
    have ha1 := ha.put hdi (.pointer (some ⟨b, 0, none⟩))
    refine ⟨hmid _ _ _ hS1, by rw [hr1]; simp, fun k hk => ?_⟩
    rw [hr1] at hk
    have hkj : k = j := by simpa using hk
    subst hkj
    refine ⟨hjn, ?_⟩
    unfold wpOpIn
    simp only [hoj]
    rw [if_pos (by simp [Region.wanted])]
    refine Ef.alloc (P := P) (N := N) (D := D) hS1 ρ _ ha1 _ _ ?_
    rintro v w2 ⟨b', rfl, hS2⟩
    obtain ⟨g1, g2⟩ := h b b' w2 hS2
    refine ⟨g1, ?_⟩
    rw [hs1]
    exact g2 g1 _ (ha1.put hdj _) _ rfl iv12
  · refine ⟨hjn, ?_⟩
    unfold wpOpIn
    simp only [hoj]
    rw [if_pos (Runs.plain (E := E) rfl a ha.knows)]
    refine Ef.alloc (P := P) (N := N) (D := D) (E := E) hS ρ a ha _ _ ?_
    rintro v w1 ⟨b, rfl, hS1⟩
    have ha1 := ha.put hdj (.pointer (some ⟨b, 0, none⟩))
    refine ⟨hmid _ _ _ hS1, by rw [hr2]; simp, fun k hk => ?_⟩
    rw [hr2] at hk
    have hki : k = i := by simpa using hk
    subst hki
    refine ⟨hin, ?_⟩
    unfold wpOpIn
    simp only [hoi]
    rw [if_pos (by simp [Region.wanted])]
    refine Ef.alloc (P := P) (N := N) (D := D) hS1 ρ _ ha1 _ _ ?_
    rintro v w2 ⟨b', rfl, hS2⟩
    obtain ⟨g1, g2⟩ := h b' b w2 hS2.swap
    refine ⟨g1, ?_⟩
    rw [hs2]
    exact g2 g1 _ ((ha1.put hdi _).sub (look_swap hne)) _ rfl iv12
end
end Go.Gx

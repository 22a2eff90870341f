/- Part 3 of the proof engine and of what the functions come to. No condition. -/
import Derived.Test.YtieanejabjhnjaaMpb
import Derived.Lib.BitFns
/- The reference of layer 11: how it lies, Where, Len, List. -/
namespace Go.Proofs
open Go Go.Gx
variable {oo : World}

abbrev rpF (nt : Nat) : Value → List KItem → HP := fun v l => rsO v nt nt l
def rpO (p : Value) (np nt : Nat) (queue : Int) (L : List (List KItem)) : HP := fun F => ∃ x : Nat × Value × List Value, (p = .pointer (some ⟨x.1, 0, none⟩) ∧ PrOk np nt L ∧ x.2.2.length = L.length ∧ (1 ≤ np ∧ np ≤ 64) ∧ 1 ≤ nt ∧ nt ≤ 1024) ∧
  Star [pt x.1 (.cells #[.int .i64 np, .int .i64 nt, .int .i64 queue, x.2.1] 84 (0, 0)), own x.2.1 85 1 L.length x.2.2, Objs (rpF nt) x.2.2 L] F
theorem rpO_open {w : World} {M : List HP} {p : Value} {np nt : Nat} {queue : Int} {L : List (List KItem)} (h : Sat oo w (rpO p np nt queue L :: M)) :
    ∃ b sp cap vs, p = .pointer (some ⟨b, 0, none⟩) ∧ PrOk np nt L ∧ vs.length = L.length ∧ (1 ≤ np ∧ np ≤ 64) ∧ (1 ≤ nt ∧ nt ≤ 1024) ∧
      Sat oo w (pt b (.cells #[.int .i64 np, .int .i64 nt, .int .i64 queue, .slice sp L.length cap] 84 (0, 0)) :: own (.slice sp L.length cap) 85 1 L.length vs :: Objs (rpF nt) vs L :: M) := by
  obtain ⟨⟨b, s, vs⟩, h⟩ := h.ex (α := Nat × Value × List Value) 0 rfl (q := fun x F => (p = .pointer (some ⟨x.1, 0, none⟩) ∧ PrOk np nt L ∧ x.2.2.length = L.length ∧ (1 ≤ np ∧ np ≤ 64) ∧ 1 ≤ nt ∧ nt ≤ 1024) ∧
    Star [pt x.1 (.cells #[.int .i64 np, .int .i64 nt, .int .i64 queue, x.2.1] 84 (0, 0)), own x.2.1 85 1 L.length x.2.2, Objs (rpF nt) x.2.2 L] F) (fun F ⟨x, h⟩ => ⟨x, h⟩)
  obtain ⟨h1, h2, h3, h4, h5⟩ := h.fact 0 rfl (fun F hF => hF.1)
  have h6 := (h.imp 0 rfl (fun F hF => hF.2)).unstar
  obtain ⟨sp, cap, e⟩ := h6.ownForm 1 rfl
  dsimp only at e
  subst e
  exact ⟨b, sp, cap, vs, h1, h2, h3, h4, h5, h6⟩
theorem rpO_shut {w : World} {M : List HP} {b np nt : Nat} {queue : Int} {L : List (List KItem)} {s : Value} {vs : List Value} (hp : PrOk np nt L) (hv : vs.length = L.length) (h1 : 1 ≤ np ∧ np ≤ 64) (h2 : 1 ≤ nt ∧ nt ≤ 1024)
    (h : Sat oo w (pt b (.cells #[.int .i64 np, .int .i64 nt, .int .i64 queue, s] 84 (0, 0)) :: own s 85 1 L.length vs :: Objs (rpF nt) vs L :: M)) : Sat oo w (rpO (.pointer (some ⟨b, 0, none⟩)) np nt queue L :: M) := by
  have h3 := Sat.star (B := [pt b (.cells #[.int .i64 np, .int .i64 nt, .int .i64 queue, s] 84 (0, 0)), own s 85 1 L.length vs, Objs (rpF nt) vs L]) (L := M) h
  exact h3.imp 0 rfl (fun F hF => ⟨⟨b, s, vs⟩, ⟨rfl, hp, hv, h1, h2⟩, hF⟩)
/-- A pointer of the row. -/
theorem ptr_cell {c : Array Value} {vs : List Value} {m : Nat} (h : c.toList.take m = vs) {i k : Nat} (hi : i < vs.length) (hk : k = i) : c.toList[k]? = some vs[i] := by
  subst hk
  have hm : k < m := by
    rw [← h, List.length_take] at hi; omega
  have : (c.toList.take m)[k]? = vs[k]? := by rw [h]
  rw [List.getElem?_take_of_lt hm] at this
  rw [this, List.getElem?_eq_getElem hi]

set_option maxHeartbeats 2000000 in
theorem rpWhere (p : Value) (np nt : Nat) (queue : Int) (L : List (List KItem)) (id : Int) : Ct Try.prog 52 #[p, .int .i64 id] [rpO p np nt queue L] (fun v ps => v = .tuple #[.int .i64 (pwAt L id), .bool (pwOk L id)] ∧ ps = [rpO p np nt queue L]) := by
  refine Ct.enter Try.func52 rfl (Nat.le_of_ble_eq_true rfl) ?_
  intro oo w R hS
  change RC _ _ _ _ _ _ [(0, _), (1, _)] _
  obtain ⟨b, sp, cap, vs, rfl, hp, hv, hnp, hnt, hS⟩ := rpO_open hS
  have hlen := hp.len
  refine RC.seq ?_
  refine RC.region rfl ?_
  refine RL.q (Qt.as rfl) ?_
  refine RL.q (Qt.as rfl) ?_
  refine RL.nil ?_
  refine RE.sqN ?_
  refine RC.seq ?_
  refine RC.seq ?_
  refine RC.region rfl ?_
  refine RL.q (Qt.as rfl) ?_
  refine RL.nil ?_
  refine RE.sqN ?_
  refine RC.block ?_
  refine RC.loop (γ := Nat) (fun k E w' => E = [(6, .int .i64 k), (0, .pointer (some ⟨b, 0, none⟩)), (1, .int .i64 id)] ∧ k ≤ L.length ∧ pwFrom (L.drop k) id k = pw L id ∧
    Sat oo w' [pt b (.cells #[.int .i64 np, .int .i64 nt, .int .i64 queue, .slice sp L.length cap] 84 (0, 0)), own (.slice sp L.length cap) 85 1 L.length vs, Objs (rpF nt) vs L, R]) (fun k => L.length - k) 0 _ (by (repeat (first | exact Sub.nil | refine Sub.cons rfl ?_))) ⟨rfl, by omega, rfl, hS⟩ ?_
  clear hS
  rintro k E w ⟨rfl, hk, hpw, hS⟩
  refine RC.seq ?_
  refine RC.seq ?_
  refine RC.region rfl ?_
  refine RL.q (Qt.mv rfl) ?_
  refine RL.q (Qt.neqN rfl rfl) ?_
  refine RL.q (Qt.mv rfl) ?_
  refine RLG.start 11 true rfl ?_
  refine RLG.q rfl rfl rfl (fun _ => Qt.mv rfl) ?_
  refine RLG.q rfl rfl rfl (fun _ => Qt.mv rfl) ?_
  refine RLG.q rfl rfl rfl (fun _ => Qt.nil rfl) ?_
  refine RLG.q rfl rfl rfl (fun _ => Qt.fld rfl) ?_
  refine RLG.q rfl rfl rfl (fun hg => by (try simp only [Option.isSome_some] at hg); exact Qt.ld rfl (by exact hS.at 0 rfl) (by first  | rfl)) ?_
  refine RLG.q rfl rfl rfl (fun _ => Qt.lenS rfl) ?_
  refine RLG.q rfl rfl rfl (fun hg => by (try simp only [Option.isSome_some] at hg); exact Qt.lss rfl rfl) ?_
  refine RLG.and rfl rfl ?_
  refine RL.nil ?_
  refine RE.sqN ?_
  refine RC.cond rfl (fun h => ?_) (fun h => ?_)
  · skip
    have hlt : k < L.length := by simpa using h
    have hltv : k < vs.length := by omega
    have hd : L.drop k = L[k] :: L.drop (k + 1) := List.drop_eq_getElem_cons hlt
    rw [hd] at hpw
    obtain ⟨bs, cap', c, hv', hc1, hc2, hc3, hc4, hS⟩ := hS.ownPos 1 rfl (by omega)
    cases hv'
    have hS := hS.pick [2, 0, 1, 3] (by decide) rfl
    have hS := Sat.objOut hv hlt hS
    refine RC.skip ?_
    refine RE.sqN ?_
    refine RC.seq ?_
    refine RC.block ?_
    refine RC.seq ?_
    refine RC.region rfl ?_
    refine RL.q (Qt.mv rfl) ?_
    refine RL.q (Qt.nil rfl) ?_
    refine RL.q (Qt.fld rfl) ?_
    refine RL.q (Qt.ld rfl (by exact hS.at 2 rfl) (by rfl)) ?_
    refine RL.q (Qt.mv rfl) ?_
    refine RL.q (Qt.ixS rfl rfl (by omega) (by omega)) ?_
    refine RL.q (Qt.ld rfl (by exact hS.at 3 rfl) (by exact ptr_cell hc4 hltv (by omega))) ?_
    refine RL.q (Qt.mv rfl) ?_
    refine RL.e (Ef.call hS (rsKey vs[k] nt nt L[k] id (hp.at hlt).nodup) rfl rfl Try.call76 [0] [1, 2, 3, 4] (by decide) rfl rfl) ?_
    rintro v31 w ⟨ps, ⟨rfl, rfl⟩, hS⟩
    refine RL.q (Qt.mv rfl) ?_
    refine RL.q (Qt.ext rfl rfl) ?_
    refine RL.q (Qt.ext rfl rfl) ?_
    refine RL.e (Ef.alloc hS) ?_
    rintro _ w ⟨b7, rfl, hS⟩
    try simp (disch := omega) only [cells_agg'] at hS
    refine RL.e0 (Ef.st hS 0 rfl rfl rfl (by rfl) (by rfl) (by exact Nat.le_of_ble_eq_true rfl)) ?_
    intro _ w hS
    simp (disch := omega) only [List.set_cons_zero, cells_agg'] at hS
    refine RL.q (Qt.as rfl) ?_
    refine RL.nil ?_
    refine RE.sqN ?_
    refine RC.seq ?_
    refine RC.region rfl ?_
    refine RL.q (Qt.mv rfl) ?_
    refine RL.nil ?_
    refine RE.sqN ?_
    have hS := Sat.objIn (f := rpF nt) hv hlt (y := L[k]) (hS.pick [1, 2, 3, 4, 5] (by decide) rfl)
    rw [set_same hlt] at hS
    have hS := (hS.pick [1, 2, 0, 3] (by decide) rfl).ownMk (cap := cap) (n := L.length) (sz := 1) (cs := vs) 1 rfl hc1 hc2 hc3 hc4
    refine RC.cond rfl (fun h2 => ?_) (fun h2 => ?_)
    · refine RC.seq ?_
      refine RC.region rfl ?_
      refine RL.q (Qt.mv rfl) ?_
      refine RL.q (Qt.as rfl) ?_
      refine RL.q (Qt.as rfl) ?_
      refine RL.nil ?_
      refine RE.sqN ?_
      refine RC.ret ?_
      refine RE.bkR ?_
      refine RE.sqR ?_
      refine RE.lpR ?_
      refine RE.bkR ?_
      refine RE.sqR ?_
      have h2 : id ∈ kIds L[k] := of_decide_eq_true h2
      rw [pwFrom, if_pos h2] at hpw
      have e1 : pwAt L id = k := by rw [pwAt, ← hpw]
      have e2 : pwOk L id = true := by rw [pwOk, ← hpw]; rfl
      rw [e1, e2]
      exact RE.retB rfl ⟨rfl, rfl⟩ (rpO_shut hp hv hnp hnt hS)
    · refine RC.skip ?_
      refine RE.bkN ?_
      refine RE.sqN ?_
      refine RC.region rfl ?_
      refine RL.q (Qt.mv rfl) ?_
      refine RL.q ((by exact Qt.addI rfl rfl (by dsimp only [inK]; omega))) ?_
      refine RL.q (Qt.as rfl) ?_
      refine RL.nil ?_
      have h2 : id ∉ kIds L[k] := of_decide_eq_false h2
      rw [pwFrom, if_neg h2] at hpw
      apply RE.lpN (k + 1)
      case hI => exact ⟨rfl, hlt, hpw, hS⟩
      case hs => (repeat (first | exact Sub.nil | refine Sub.cons rfl ?_))
      case hm =>
        show L.length - (k + 1) < L.length - k
        omega
  · refine RC.exit ?_
    refine RE.sqX ?_
    refine RE.lpX ?_
    refine RE.bkX ?_
    refine RE.sqN ?_
    refine RC.seq ?_
    refine RC.region rfl ?_
    refine RL.q (Qt.as rfl) ?_
    refine RL.q (Qt.as rfl) ?_
    refine RL.nil ?_
    refine RE.sqN ?_
    refine RC.ret ?_
    have hge : k = L.length := by
      have : ¬ k < L.length := by simpa using h
      omega
    subst hge
    rw [List.drop_length, pwFrom] at hpw
    have e1 : pwAt L id = 0 := by rw [pwAt, ← hpw]
    have e2 : pwOk L id = false := by rw [pwOk, ← hpw]; rfl
    rw [e1, e2]
    exact RE.retB rfl ⟨rfl, rfl⟩ (rpO_shut hp hv hnp hnt hS)

/-- How many stand in all places. -/
def prLen (L : List (List KItem)) : Int := (L.map fun l => (l.length : Int)).sum
theorem sum_snoc (l : List Int) (x : Int) : (l ++ [x]).sum = l.sum + x := by simp
theorem prLen_take {L : List (List KItem)} {k : Nat} (h : k < L.length) : prLen (L.take (k + 1)) = prLen (L.take k) + L[k].length := by
  rw [List.take_succ_eq_append_getElem h, prLen, List.map_append, List.map_singleton, sum_snoc]; rfl
theorem prLen_bound {L : List (List KItem)} {nt : Nat} (h : ∀ l ∈ L, l.length ≤ nt) : 0 ≤ prLen L ∧ prLen L ≤ L.length * nt := by
  induction L with
  | nil => simp [prLen]
  | cons l t ih =>
    have h1 := ih fun m hm => h m (List.mem_cons_of_mem _ hm)
    have h2 := h l (by simp)
    have e : prLen (l :: t) = l.length + prLen t := by simp [prLen]
    rw [e, List.length_cons]
    have h3 : ((t.length + 1 : Nat) : Int) * nt = t.length * nt + nt := by rw [Int.natCast_add, Int.add_mul]; simp
    rw [h3]; omega

set_option maxHeartbeats 2000000 in
theorem rpLen (p : Value) (np nt : Nat) (queue : Int) (L : List (List KItem)) : Ct Try.prog 26 #[p] [rpO p np nt queue L] (fun v ps => v = .int .i64 (prLen L) ∧ ps = [rpO p np nt queue L]) := by
  refine Ct.enter Try.func26 rfl (Nat.le_of_ble_eq_true rfl) ?_
  intro oo w R hS
  change RC _ _ _ _ _ _ [(0, _)] _
  obtain ⟨b, sp, cap, vs, rfl, hp, hv, hnp, hnt, hS⟩ := rpO_open hS
  have hlen := hp.len
  refine RC.seq ?_
  refine RC.region rfl ?_
  refine RL.q (Qt.as rfl) ?_
  refine RL.nil ?_
  refine RE.sqN ?_
  refine RC.seq ?_
  refine RC.region rfl ?_
  refine RL.q (Qt.as rfl) ?_
  refine RL.nil ?_
  refine RE.sqN ?_
  refine RC.seq ?_
  refine RC.seq ?_
  refine RC.region rfl ?_
  refine RL.q (Qt.as rfl) ?_
  refine RL.nil ?_
  refine RE.sqN ?_
  refine RC.block ?_
  have hall : ∀ m : Nat, ∀ l ∈ L.take m, l.length ≤ nt := fun m l hl => (hp.each l (List.mem_of_mem_take hl)).lenLe
  have hbnd : ∀ m : Nat, 0 ≤ prLen (L.take m) ∧ prLen (L.take m) ≤ 66560 := fun m => by
    have h1 := prLen_bound (hall m)
    have h2 : (L.take m).length * nt ≤ 65 * 1024 := Nat.mul_le_mul (by rw [List.length_take]; omega) hnt.2
    have h3 : ((L.take m).length : Int) * (nt : Int) = (((L.take m).length * nt : Nat) : Int) := by simp
    rw [h3] at h1
    omega
  refine RC.loop (γ := Nat) (fun k E w' => E = [(4, .int .i64 k), (3, .int .i64 (prLen (L.take k))), (0, .pointer (some ⟨b, 0, none⟩))] ∧ k ≤ L.length ∧
    Sat oo w' [pt b (.cells #[.int .i64 np, .int .i64 nt, .int .i64 queue, .slice sp L.length cap] 84 (0, 0)), own (.slice sp L.length cap) 85 1 L.length vs, Objs (rpF nt) vs L, R]) (fun k => L.length - k) 0 _ (by (repeat (first | exact Sub.nil | refine Sub.cons rfl ?_))) ⟨rfl, by omega, hS⟩ ?_
  clear hS
  rintro k E w ⟨rfl, hk, hS⟩
  refine RC.seq ?_
  refine RC.seq ?_
  refine RC.region rfl ?_
  refine RL.q (Qt.mv rfl) ?_
  refine RL.q (Qt.neqN rfl rfl) ?_
  refine RL.q (Qt.mv rfl) ?_
  refine RLG.start 7 true rfl ?_
  refine RLG.q rfl rfl rfl (fun _ => Qt.mv rfl) ?_
  refine RLG.q rfl rfl rfl (fun _ => Qt.mv rfl) ?_
  refine RLG.q rfl rfl rfl (fun _ => Qt.nil rfl) ?_
  refine RLG.q rfl rfl rfl (fun _ => Qt.fld rfl) ?_
  refine RLG.q rfl rfl rfl (fun hg => by (try simp only [Option.isSome_some] at hg); exact Qt.ld rfl (by exact hS.at 0 rfl) (by first  | rfl)) ?_
  refine RLG.q rfl rfl rfl (fun _ => Qt.lenS rfl) ?_
  refine RLG.q rfl rfl rfl (fun hg => by (try simp only [Option.isSome_some] at hg); exact Qt.lss rfl rfl) ?_
  refine RLG.and rfl rfl ?_
  refine RL.nil ?_
  refine RE.sqN ?_
  refine RC.cond rfl (fun h => ?_) (fun h => ?_)
  · skip
    have hlt : k < L.length := by simpa using h
    have hltv : k < vs.length := by omega
    have hb0 := hbnd k
    have hb1 := hbnd (k + 1)
    rw [prLen_take hlt] at hb1
    obtain ⟨bs, cap', c, hv', hc1, hc2, hc3, hc4, hS⟩ := hS.ownPos 1 rfl (by omega)
    cases hv'
    have hS := hS.pick [2, 0, 1, 3] (by decide) rfl
    have hS := Sat.objOut hv hlt hS
    refine RC.skip ?_
    refine RE.sqN ?_
    refine RC.seq ?_
    refine RC.block ?_
    refine RC.region rfl ?_
    refine RL.q (Qt.mv rfl) ?_
    refine RL.q (Qt.mv rfl) ?_
    refine RL.q (Qt.nil rfl) ?_
    refine RL.q (Qt.fld rfl) ?_
    refine RL.q (Qt.ld rfl (by exact hS.at 2 rfl) (by rfl)) ?_
    refine RL.q (Qt.mv rfl) ?_
    refine RL.q (Qt.ixS rfl rfl (by omega) (by omega)) ?_
    refine RL.q (Qt.ld rfl (by exact hS.at 3 rfl) (by exact ptr_cell hc4 hltv (by omega))) ?_
    refine RL.e (Ef.call hS (rsLen vs[k] nt nt L[k]) rfl rfl Try.call46 [0] [1, 2, 3, 4] (by decide) rfl rfl) ?_
    rintro v26 w ⟨ps, ⟨rfl, rfl⟩, hS⟩
    refine RL.q ((by exact Qt.addI rfl rfl (by dsimp only [inK]; omega))) ?_
    refine RL.q (Qt.as rfl) ?_
    refine RL.nil ?_
    refine RE.bkN ?_
    refine RE.sqN ?_
    refine RC.region rfl ?_
    refine RL.q (Qt.mv rfl) ?_
    refine RL.q ((by exact Qt.addI rfl rfl (by dsimp only [inK]; omega))) ?_
    refine RL.q (Qt.as rfl) ?_
    refine RL.nil ?_
    have hS := Sat.objIn (f := rpF nt) hv hlt (y := L[k]) hS
    rw [set_same hlt] at hS
    have hS := (hS.pick [1, 2, 0, 3] (by decide) rfl).ownMk (cap := cap) (n := L.length) (sz := 1) (cs := vs) 1 rfl hc1 hc2 hc3 hc4
    apply RE.lpN (k + 1)
    case hI => exact ⟨by rw [prLen_take hlt], hlt, hS⟩
    case hs => (repeat (first | exact Sub.nil | refine Sub.cons rfl ?_))
    case hm =>
      show L.length - (k + 1) < L.length - k
      omega
  · refine RC.exit ?_
    refine RE.sqX ?_
    refine RE.lpX ?_
    refine RE.bkX ?_
    refine RE.sqN ?_
    refine RC.seq ?_
    refine RC.region rfl ?_
    refine RL.q (Qt.mv rfl) ?_
    refine RL.q (Qt.as rfl) ?_
    refine RL.nil ?_
    refine RE.sqN ?_
    refine RC.ret ?_
    have hge : k = L.length := by
      have : ¬ k < L.length := by simpa using h
      omega
    subst hge
    rw [List.take_length]
    exact RE.retB rfl ⟨rfl, rfl⟩ (rpO_shut hp hv hnp hnt hS)

def prList (L : List (List KItem)) (np : Nat) (a : Int) : List Int := if a < 0 ∨ a > np then [] else kIds (L.getD a.toNat [])

set_option maxHeartbeats 2000000 in
theorem rpList (p : Value) (np nt : Nat) (queue : Int) (L : List (List KItem)) (a : Int) : Ct Try.prog 49 #[p, .int .i64 a] [rpO p np nt queue L] (fun v ps => ps = [ownI v (prList L np a), rpO p np nt queue L]) := by
  refine Ct.enter Try.func49 rfl (Nat.le_of_ble_eq_true rfl) ?_
  intro oo w R hS
  change RC _ _ _ _ _ _ [(0, _), (1, _)] _
  obtain ⟨b, sp, cap, vs, rfl, hp, hv, hnp, hnt, hS⟩ := rpO_open hS
  have hlen := hp.len
  refine RC.seq ?_
  refine RC.region rfl ?_
  refine RL.q (Qt.as rfl) ?_
  refine RL.nil ?_
  refine RE.sqN ?_
  refine RC.seq ?_
  refine RC.seq ?_
  refine RC.region rfl ?_
  refine RL.q (Qt.mv rfl) ?_
  refine RL.q (Qt.eqlN rfl rfl) ?_
  refine RL.q (Qt.mv rfl) ?_
  refine RLG.start 7 false rfl ?_
  refine RLG.q rfl rfl rfl (fun _ => Qt.mv rfl) ?_
  refine RLG.q rfl rfl rfl (fun hg => by (try simp only [Option.isNone_some] at hg); exact Qt.lss rfl rfl) ?_
  refine RLG.or rfl rfl ?_
  refine RL.q (Qt.mv rfl) ?_
  refine RLG.start 11 false rfl ?_
  refine RLG.q rfl rfl rfl (fun _ => Qt.mv rfl) ?_
  refine RLG.q rfl rfl rfl (fun _ => Qt.mv rfl) ?_
  refine RLG.q rfl rfl rfl (fun _ => Qt.nil rfl) ?_
  refine RLG.q rfl rfl rfl (fun _ => Qt.fld rfl) ?_
  refine RLG.q rfl rfl rfl (fun hg => by (try simp only [decide_eq_false_iff_not, Bool.or_eq_false_iff, Option.isNone_some] at hg); exact Qt.ld rfl (by exact hS.at 0 rfl) (by first  | rfl)) ?_
  refine RLG.q rfl rfl rfl (fun hg => by (try simp only [decide_eq_false_iff_not, Bool.or_eq_false_iff, Option.isNone_some] at hg); exact Qt.gtr rfl rfl) ?_
  refine RLG.or rfl rfl ?_
  refine RL.nil ?_
  refine RE.sqN ?_
  refine RC.cond rfl (fun h => ?_) (fun h => ?_)
  · refine RC.seq ?_
    refine RC.region rfl ?_
    refine RL.q (Qt.as rfl) ?_
    refine RL.nil ?_
    refine RE.sqN ?_
    refine RC.ret ?_
    refine RE.sqR ?_
    have h : a < 0 ∨ a > np := by simpa using h
    have e : prList L np a = [] := if_pos h
    have hS := hS.nilOwn (T := 3) (sz := 1)
    refine RE.retB rfl (ps := [ownI (.slice none 0 0) (prList L np a), rpO _ np nt queue L]) rfl ?_
    rw [e]
    exact (rpO_shut hp hv hnp hnt (hS.pick [1, 2, 3, 0, 4] (by decide) rfl)).pick [1, 0, 2] (by decide) rfl
  · skip
    have h : ¬ (a < 0 ∨ a > np) := by simpa using h
    have hlt : a.toNat < L.length := by omega
    have hltv : a.toNat < vs.length := by omega
    have e : prList L np a = kIds L[a.toNat] := by rw [prList, if_neg h, List.getD_eq_getElem?_getD, List.getElem?_eq_getElem hlt]; rfl
    obtain ⟨bs, cap', c, hv', hc1, hc2, hc3, hc4, hS⟩ := hS.ownPos 1 rfl (by omega)
    cases hv'
    have hS := hS.pick [2, 0, 1, 3] (by decide) rfl
    have hS := Sat.objOut hv hlt hS
    refine RC.skip ?_
    refine RE.sqN ?_
    refine RC.seq ?_
    refine RC.region rfl ?_
    refine RL.q (Qt.mv rfl) ?_
    refine RL.q (Qt.nil rfl) ?_
    refine RL.q (Qt.fld rfl) ?_
    refine RL.q (Qt.ld rfl (by exact hS.at 2 rfl) (by rfl)) ?_
    refine RL.q (Qt.mv rfl) ?_
    refine RL.q (Qt.ixS rfl rfl (by omega) (by omega)) ?_
    refine RL.q (Qt.ld rfl (by exact hS.at 3 rfl) (by exact ptr_cell hc4 hltv (by omega))) ?_
    refine RL.e (Ef.call hS (rsList vs[a.toNat] nt nt L[a.toNat]) rfl rfl Try.call73 [0] [1, 2, 3, 4] (by decide) rfl rfl) ?_
    rintro v26 w ⟨ps, rfl, hS⟩
    refine RL.q (Qt.as rfl) ?_
    refine RL.nil ?_
    refine RE.sqN ?_
    refine RC.ret ?_
    have hS := Sat.objIn (f := rpF nt) hv hlt (y := L[a.toNat]) (hS.pick [1, 2, 3, 4, 0, 5] (by decide) rfl)
    rw [set_same hlt] at hS
    have hS := (hS.pick [1, 2, 0, 3, 4] (by decide) rfl).ownMk (cap := cap) (n := L.length) (sz := 1) (cs := vs) 1 rfl hc1 hc2 hc3 hc4
    refine RE.retB rfl (ps := [ownI v26 (prList L np a), rpO _ np nt queue L]) rfl ?_
    rw [e]
    exact (rpO_shut hp hv hnp hnt hS).pick [1, 0, 2] (by decide) rfl
end Go.Proofs

/- The reference of layer 11: Put. -/
namespace Go.Proofs
open Go Go.Gx
variable {oo : World}

set_option maxHeartbeats 4000000 in
theorem rpPut (p : Value) (np nt : Nat) (queue : Int) (L : List (List KItem)) (proc id : Int) (k : KKey) (ho : k.ok) : Ct Try.prog 57 #[p, .int .i64 proc, .int .i64 id, .agg k.cells.toArray] [rpO p np nt queue L] (fun v ps => v = .int .i64 (prPutErr L np nt proc id k) ∧ ps = [rpO p np nt queue (prPut L np nt queue proc id k)]) := by
  refine Ct.enter Try.func57 rfl (Nat.le_of_ble_eq_true rfl) ?_
  intro oo w R hS
  change RC _ _ _ _ _ _ [(0, _), (1, _), (2, _), (3, _)] _
  obtain ⟨b, sp, cap, vs, rfl, hp, hv, hnp, hnt, hS⟩ := rpO_open hS
  have hlen := hp.len
  have hkx : k.cells.toArray.extract 0 (0 + 3) = k.cells.toArray := rfl
  refine RC.seq ?_
  refine RC.region rfl ?_
  refine RL.e (Ef.box hS rfl) ?_
  rintro _ w ⟨b7, rfl, hS⟩
  try simp (disch := omega) only [cells_agg'] at hS
  refine RL.q (Qt.as rfl) ?_
  refine RL.nil ?_
  refine RE.sqN ?_
  refine RC.seq ?_
  refine RC.seq ?_
  refine RC.region rfl ?_
  refine RL.q (Qt.mv rfl) ?_
  refine RL.q (Qt.eqlN rfl rfl) ?_
  refine RL.nil ?_
  refine RE.sqN ?_
  by_cases hr : proc < 0 ∨ proc ≥ np ∨ id < 0 ∨ id ≥ nt
  · have hg : (decide (proc < 0) || decide (proc ≥ (np : Int)) || decide (id < 0) || decide (id ≥ (nt : Int))) = true := by simpa [or_assoc] using hr
    refine RC.condF rfl (rfl) ?_
    refine RC.skip ?_
    refine RE.sqN ?_
    refine RC.seq ?_
    refine RC.seq ?_
    refine RC.region rfl ?_
    refine RL.q (Qt.mv rfl) ?_
    refine RL.q (Qt.lss rfl rfl) ?_
    refine RL.q (Qt.mv rfl) ?_
    refine RLG.start 15 false rfl ?_
    refine RLG.q rfl rfl rfl (fun _ => Qt.mv rfl) ?_
    refine RLG.q rfl rfl rfl (fun _ => Qt.mv rfl) ?_
    refine RLG.q rfl rfl rfl (fun _ => Qt.nil rfl) ?_
    refine RLG.q rfl rfl rfl (fun _ => Qt.fld rfl) ?_
    refine RLG.q rfl rfl rfl (fun hg => by (try simp only [decide_eq_false_iff_not] at hg); exact Qt.ld rfl (by exact hS.at 1 rfl) (by first  | rfl)) ?_
    refine RLG.q rfl rfl rfl (fun hg => by (try simp only [decide_eq_false_iff_not] at hg); exact Qt.geq rfl rfl) ?_
    refine RLG.or rfl rfl ?_
    refine RL.q (Qt.mv rfl) ?_
    refine RLG.start 23 false rfl ?_
    refine RLG.q rfl rfl rfl (fun _ => Qt.mv rfl) ?_
    refine RLG.q rfl rfl rfl (fun hg => by (try simp only [decide_eq_false_iff_not, Bool.or_eq_false_iff] at hg); exact Qt.lss rfl rfl) ?_
    refine RLG.or rfl rfl ?_
    refine RL.q (Qt.mv rfl) ?_
    refine RLG.start 27 false rfl ?_
    refine RLG.q rfl rfl rfl (fun _ => Qt.mv rfl) ?_
    refine RLG.q rfl rfl rfl (fun _ => Qt.mv rfl) ?_
    refine RLG.q rfl rfl rfl (fun _ => Qt.nil rfl) ?_
    refine RLG.q rfl rfl rfl (fun _ => Qt.fld rfl) ?_
    refine RLG.q rfl rfl rfl (fun hg => by (try simp only [decide_eq_false_iff_not, Bool.or_eq_false_iff] at hg); exact Qt.ld rfl (by exact hS.at 1 rfl) (by first  | rfl)) ?_
    refine RLG.q rfl rfl rfl (fun hg => by (try simp only [decide_eq_false_iff_not, Bool.or_eq_false_iff] at hg); exact Qt.geq rfl rfl) ?_
    refine RLG.or rfl rfl ?_
    refine RL.q (Qt.mv rfl) ?_
    refine RL.s (Skips.guard rfl rfl rfl (hg)) ?_
    refine RL.s (Skips.guard rfl rfl rfl (hg)) ?_
    refine RL.s (Skips.guard rfl rfl rfl (hg)) ?_
    refine RL.q ((by exact Qt.pickT rfl (by assumption) rfl)) ?_
    refine RL.nil ?_
    refine RE.sqN ?_
    refine RC.condT rfl (rfl) ?_
    refine RC.seq ?_
    refine RC.region rfl ?_
    refine RL.q (Qt.as rfl) ?_
    refine RL.nil ?_
    refine RE.sqN ?_
    refine RC.ret ?_
    refine RE.sqR ?_
    have hri : id < 0 ∨ id ≥ nt ∨ (prIs np proc && kRight k) = false := by
      rcases hr with h | h | h | h
      · exact .inr (.inr (by rw [prIs, decide_eq_false (by omega)]; rfl))
      · exact .inr (.inr (by rw [prIs, decide_eq_false (show ¬ proc < np by omega), Bool.and_false]; rfl))
      · exact .inl h
      · exact .inr (.inl h)
    have he : prPutErr L np nt proc id k = 2 := if_pos hri
    refine RE.retB rfl (ps := [rpO _ np nt queue _]) ⟨by rw [he]; rfl, rfl⟩ ?_
    rw [prPut, he, if_neg (by decide)]
    exact rpO_shut hp hv hnp hnt (hS.pick [1, 2, 3, 4] (by decide) rfl)
  · have hg : (decide (proc < 0) || decide (proc ≥ (np : Int)) || decide (id < 0) || decide (id ≥ (nt : Int))) = false := by
      simp at hr ⊢
      exact ⟨⟨⟨hr.1, hr.2.1⟩, hr.2.2.1⟩, hr.2.2.2⟩
    refine RC.condF rfl (rfl) ?_
    refine RC.skip ?_
    refine RE.sqN ?_
    refine RC.seq ?_
    refine RC.seq ?_
    refine RC.region rfl ?_
    refine RL.q (Qt.mv rfl) ?_
    refine RL.q (Qt.lss rfl rfl) ?_
    refine RL.q (Qt.mv rfl) ?_
    refine RLG.start 15 false rfl ?_
    refine RLG.q rfl rfl rfl (fun _ => Qt.mv rfl) ?_
    refine RLG.q rfl rfl rfl (fun _ => Qt.mv rfl) ?_
    refine RLG.q rfl rfl rfl (fun _ => Qt.nil rfl) ?_
    refine RLG.q rfl rfl rfl (fun _ => Qt.fld rfl) ?_
    refine RLG.q rfl rfl rfl (fun hg => by (try simp only [decide_eq_false_iff_not] at hg); exact Qt.ld rfl (by exact hS.at 1 rfl) (by first  | rfl)) ?_
    refine RLG.q rfl rfl rfl (fun hg => by (try simp only [decide_eq_false_iff_not] at hg); exact Qt.geq rfl rfl) ?_
    refine RLG.or rfl rfl ?_
    refine RL.q (Qt.mv rfl) ?_
    refine RLG.start 23 false rfl ?_
    refine RLG.q rfl rfl rfl (fun _ => Qt.mv rfl) ?_
    refine RLG.q rfl rfl rfl (fun hg => by (try simp only [decide_eq_false_iff_not, Bool.or_eq_false_iff] at hg); exact Qt.lss rfl rfl) ?_
    refine RLG.or rfl rfl ?_
    refine RL.q (Qt.mv rfl) ?_
    refine RLG.start 27 false rfl ?_
    refine RLG.q rfl rfl rfl (fun _ => Qt.mv rfl) ?_
    refine RLG.q rfl rfl rfl (fun _ => Qt.mv rfl) ?_
    refine RLG.q rfl rfl rfl (fun _ => Qt.nil rfl) ?_
    refine RLG.q rfl rfl rfl (fun _ => Qt.fld rfl) ?_
    refine RLG.q rfl rfl rfl (fun hg => by (try simp only [decide_eq_false_iff_not, Bool.or_eq_false_iff] at hg); exact Qt.ld rfl (by exact hS.at 1 rfl) (by first  | rfl)) ?_
    refine RLG.q rfl rfl rfl (fun hg => by (try simp only [decide_eq_false_iff_not, Bool.or_eq_false_iff] at hg); exact Qt.geq rfl rfl) ?_
    refine RLG.or rfl rfl ?_
    refine RL.q (Qt.mv rfl) ?_
    refine RL.q (Qt.ldA rfl (by exact hS.at 0 rfl) (by exact hkx) (by exact Nat.le_of_ble_eq_true rfl)) ?_ (Runs.guard rfl rfl rfl (hg))
    refine RL.e (Ef.call hS (rkRight k) rfl rfl Try.call81 [] [0, 1, 2, 3, 4] (by decide) rfl rfl) ?_ (Runs.guard rfl rfl rfl (hg))
    rintro v37 w ⟨ps, ⟨rfl, rfl⟩, hS⟩
    try rw [List.nil_append] at hS
    refine RL.q (Qt.not rfl) ?_ (Runs.guard rfl rfl rfl (hg))
    refine RL.q ((by exact Qt.pickF rfl (by assumption) rfl)) ?_
    refine RL.nil ?_
    refine RE.sqN ?_
    refine RC.cond rfl (fun h => ?_) (fun h => ?_)
    · refine RC.seq ?_
      refine RC.region rfl ?_
      refine RL.q (Qt.as rfl) ?_
      refine RL.nil ?_
      refine RE.sqN ?_
      refine RC.ret ?_
      refine RE.sqR ?_
      have h : kRight k = false := by simpa using h
      have he : prPutErr L np nt proc id k = 2 := if_pos (.inr (.inr (by rw [h, Bool.and_false])))
      refine RE.retB rfl (ps := [rpO _ np nt queue _]) ⟨by rw [he]; rfl, rfl⟩ ?_
      rw [prPut, he, if_neg (by decide)]
      exact rpO_shut hp hv hnp hnt (hS.pick [1, 2, 3, 4] (by decide) rfl)
    · skip
      have hri : kRight k = true := by simpa using h
      have hid : 0 ≤ id ∧ id < nt := by omega
      have hpr0 : 0 ≤ proc ∧ proc < np := by omega
      have hrr : (prIs np proc && kRight k) = true := by rw [prIs, decide_eq_true hpr0.1, decide_eq_true hpr0.2, hri]; rfl
      have hS := rpO_shut hp hv hnp hnt (hS.pick [1, 2, 3, 0, 4] (by decide) rfl)
      refine RC.skip ?_
      refine RE.sqN ?_
      refine RC.seq ?_
      refine RC.seq ?_
      refine RC.region rfl ?_
      refine RL.q (Qt.mv rfl) ?_
      refine RL.q (Qt.mv rfl) ?_
      refine RL.e (Ef.call hS (rpWhere _ np nt queue L id) rfl rfl Try.call52 [0] [1, 2] (by decide) rfl rfl) ?_
      rintro v43 w ⟨ps, ⟨rfl, rfl⟩, hS⟩
      refine RL.q (Qt.mv rfl) ?_
      refine RL.q (Qt.ext rfl rfl) ?_
      refine RL.q (Qt.ext rfl rfl) ?_
      refine RL.q (Qt.as rfl) ?_
      refine RL.q (Qt.as rfl) ?_
      refine RL.nil ?_
      refine RE.sqN ?_
      refine RC.seq ?_
      refine RC.region rfl ?_
      refine RL.q (Qt.mv rfl) ?_
      refine RL.nil ?_
      refine RE.sqN ?_
      refine RC.cond rfl (fun h2 => ?_) (fun h2 => ?_)
      · refine RC.seq ?_
        refine RC.region rfl ?_
        refine RL.q (Qt.as rfl) ?_
        refine RL.nil ?_
        refine RE.sqN ?_
        refine RC.ret ?_
        refine RE.sqR ?_
        have h2 : pwOk L id = true := h2
        have he : prPutErr L np nt proc id k = 5 := by
          rw [prPutErr, prErr, hrr, if_neg (by simp; omega), if_neg (fun e => by cases e.1), if_pos ⟨rfl, h2⟩]
        refine RE.retB rfl (ps := [rpO _ np nt queue _]) ⟨by rw [he]; rfl, rfl⟩ ?_
        rw [prPut, he, if_neg (by decide)]
        exact hS.pick [0, 2] (by decide) rfl
      · skip
        have h2 : pwOk L id = false := h2
        have he : prPutErr L np nt proc id k = 0 := by
          rw [prPutErr, prErr, hrr, if_neg (by simp; omega), if_neg (fun e => by cases e.1), if_neg (fun e => by rw [h2] at e; cases e.2)]
        have hno : ∀ l ∈ L, id ∉ kIds l := fun l hl hm => by
          rw [pwOk_iff.2 ⟨l, hl, hm⟩] at h2; cases h2
        obtain ⟨b2, sp, cap, vs, hb, hp, hv, hnp, hnt, hS⟩ := rpO_open hS
        cases hb
        have hlt : proc.toNat < L.length := by omega
        have hltv : proc.toNat < vs.length := by omega
        have hgd : L.getD proc.toNat [] = L[proc.toNat] := by rw [List.getD_eq_getElem?_getD, List.getElem?_eq_getElem hlt]; rfl
        obtain ⟨bs, cap', c, hv', hc1, hc2, hc3, hc4, hS⟩ := hS.ownPos 1 rfl (by omega)
        cases hv'
        have hS := Sat.objOut (f := rpF nt) hv hlt (hS.pick [2, 0, 1, 3, 4] (by decide) rfl)
        refine RC.skip ?_
        refine RE.sqN ?_
        refine RC.seq ?_
        refine RC.seq ?_
        refine RC.drawn 13 [0, 1, 2, 3, 4, 5, 6, 8, 9, 10, 11, 7, 12] (fun w' => w'.heap[b]? = some (.cells #[.int .i64 np, .int .i64 nt, .int .i64 queue, .slice (some ⟨bs, 0, none⟩) L.length cap] 84 (0, 0)) ∧ w'.heap[bs]? = some (.cells c 85 (0, 0))) (by kernel_rfl) (by kernel_rfl) (⟨by exact hS.drew.get 2 rfl, by exact hS.drew.get 3 rfl⟩) (fun hh => ?_)
        replace hS := hS.drew
        refine RH.q hh (Calm.sq (Calm.sq Calm.body)) rfl (by kernel_rfl) (Qt.mv rfl) ?_
        refine RH.q hh (Calm.sq (Calm.sq Calm.body)) rfl (by kernel_rfl) (Qt.nil rfl) ?_
        refine RH.q hh (Calm.sq (Calm.sq Calm.body)) rfl (by kernel_rfl) (Qt.fld rfl) ?_
        refine RH.q hh (Calm.sq (Calm.sq Calm.body)) rfl (by kernel_rfl) (Qt.ld rfl (by exact fun _ h => h.1) (by rfl)) ?_
        refine RH.q hh (Calm.sq (Calm.sq Calm.body)) rfl (by kernel_rfl) (Qt.mv rfl) ?_
        refine RH.q hh (Calm.sq (Calm.sq Calm.body)) rfl (by kernel_rfl) (Qt.ixS rfl rfl (by omega) (by omega)) ?_
        refine RH.q hh (Calm.sq (Calm.sq Calm.body)) rfl (by kernel_rfl) (Qt.ld rfl (by exact fun _ h => h.2) (by exact ptr_cell hc4 hltv (by omega))) ?_
        refine RH.q hh (Calm.sq (Calm.sq Calm.body)) rfl (by kernel_rfl) (Qt.mv rfl) ?_
        refine RH.q hh (Calm.sq (Calm.sq Calm.body)) rfl (by kernel_rfl) (Qt.nil rfl) ?_
        refine RH.q hh (Calm.sq (Calm.sq Calm.body)) rfl (by kernel_rfl) (Qt.fld rfl) ?_
        refine RH.q hh (Calm.sq (Calm.sq Calm.body)) rfl (by kernel_rfl) (Qt.ld rfl (by exact fun _ h => h.1) (by rfl)) ?_
        refine RH.e hh rfl (by kernel_rfl) (Ef.call hS (rsLen vs[proc.toNat] nt nt L[proc.toNat]) rfl rfl Try.call46 [0] [1, 2, 3, 4, 5] (by decide) rfl rfl) ?_
        rintro v54 w ⟨ps, ⟨rfl, rfl⟩, hS⟩
        refine ⟨⟨by exact hS.get 2 rfl, by exact hS.get 3 rfl⟩, ?_⟩
        refine RH.q hh (Calm.sq (Calm.sq Calm.body)) rfl (by kernel_rfl) (Qt.geq rfl rfl) ?_
        refine RH.done hh (by kernel_rfl) ?_
        refine RL.nil ?_
        refine RE.sqN ?_
        have hS := Sat.objIn (f := rpF nt) hv hlt (y := L[proc.toNat]) hS
        rw [set_same hlt] at hS
        refine RC.cond rfl (fun h3 => ?_) (fun h3 => ?_)
        · skip
          have h3 : (L[proc.toNat].length : Int) ≥ queue := by simpa using h3
          have hlt2 : np < L.length := by omega
          have hltv2 : np < vs.length := by omega
          have hki := hp.at hlt2
          have hni : id ∉ kIds L[np] := hno _ (List.getElem_mem hlt2)
          have hrm := hki.room hid hni
          have hpe : kPutErr L[np] nt nt id k = 0 := by rw [kPutErr, kErr_ok0 (by rw [hri]; simp; omega) hni, if_pos rfl, if_neg (by omega)]
          have hpk : kPut L[np] nt nt id k = kput ⟨id, k⟩ L[np] := if_pos hpe
          have hto : prTo L np queue proc = np := by rw [prTo, hgd, if_pos h3]
          have hS := Sat.objOut (f := rpF nt) hv hlt2 hS
          refine RC.region rfl ?_
          refine RL.q (Qt.mv rfl) ?_
          refine RL.q (Qt.nil rfl) ?_
          refine RL.q (Qt.fld rfl) ?_
          refine RL.q (Qt.ld rfl (by exact hS.at 2 rfl) (by rfl)) ?_
          refine RL.q (Qt.as rfl) ?_
          refine RL.nil ?_
          refine RE.sqN ?_
          refine RC.seq ?_
          refine RC.drawn 11 [0, 1, 2, 3, 4, 5, 6, 7, 8, 9, 10] (fun w' => w'.heap[b]? = some (.cells #[.int .i64 np, .int .i64 nt, .int .i64 queue, .slice (some ⟨bs, 0, none⟩) L.length cap] 84 (0, 0)) ∧ w'.heap[bs]? = some (.cells c 85 (0, 0)) ∧ w'.heap[b7]? = some (.cells k.cells.toArray 31 (0, 0))) (by kernel_rfl) (by kernel_rfl) (⟨by exact hS.drew.get 2 rfl, by exact hS.drew.get 3 rfl, by exact hS.drew.get 4 rfl⟩) (fun hh => ?_)
          replace hS := hS.drew
          refine RH.q hh (Calm.sq Calm.body) rfl (by kernel_rfl) (Qt.mv rfl) ?_
          refine RH.q hh (Calm.sq Calm.body) rfl (by kernel_rfl) (Qt.nil rfl) ?_
          refine RH.q hh (Calm.sq Calm.body) rfl (by kernel_rfl) (Qt.fld rfl) ?_
          refine RH.q hh (Calm.sq Calm.body) rfl (by kernel_rfl) (Qt.ld rfl (by exact fun _ h => h.1) (by rfl)) ?_
          refine RH.q hh (Calm.sq Calm.body) rfl (by kernel_rfl) (Qt.mv rfl) ?_
          refine RH.q hh (Calm.sq Calm.body) rfl (by kernel_rfl) (Qt.ixS rfl rfl (by omega) (by omega)) ?_
          refine RH.q hh (Calm.sq Calm.body) rfl (by kernel_rfl) (Qt.ld rfl (by exact fun _ h => h.2.1) (by exact ptr_cell hc4 hltv2 (by omega))) ?_
          refine RH.q hh (Calm.sq Calm.body) rfl (by kernel_rfl) (Qt.mv rfl) ?_
          refine RH.q hh (Calm.sq Calm.body) rfl (by kernel_rfl) (Qt.ldA rfl (by exact fun _ h => h.2.2) (by exact hkx) (by exact Nat.le_of_ble_eq_true rfl)) ?_
          refine RH.e hh rfl (by kernel_rfl) (Ef.call hS (rsPut vs[np] nt nt L[np] id k (by omega)) rfl rfl Try.call82 [0] [1, 2, 3, 4, 5] (by decide) rfl rfl) ?_
          rintro v73 w ⟨ps, ⟨rfl, rfl⟩, hS⟩
          refine ⟨⟨by exact hS.get 2 rfl, by exact hS.get 3 rfl, by exact hS.get 4 rfl⟩, ?_⟩
          refine RH.q hh (Calm.sq Calm.body) rfl (by kernel_rfl) (Qt.as rfl) ?_
          refine RH.done hh (by kernel_rfl) ?_
          refine RL.nil ?_
          refine RE.sqN ?_
          refine RC.ret ?_
          rw [hpk] at hS
          have hS := Sat.objIn (f := rpF nt) hv hlt2 (y := kput ⟨id, k⟩ L[np]) hS
          have hS := (hS.pick [1, 2, 0, 4] (by decide) rfl).ownMk (cap := cap) (n := L.length) (sz := 1) (cs := vs) 1 rfl hc1 hc2 hc3 hc4
          have hpr : prPut L np nt queue proc id k = L.set np (kput ⟨id, k⟩ L[np]) := by
            rw [prPut, if_pos he, prUpd, hto, List.getD_eq_getElem?_getD, List.getElem?_eq_getElem hlt2]; rfl
          have hpq : PrOk np nt (L.set np (kput ⟨id, k⟩ L[np])) := by rw [← hpr]; exact hp.put queue ho
          refine RE.retB rfl (ps := [rpO _ np nt queue _]) ⟨by rw [he, hpe]; rfl, rfl⟩ ?_
          rw [hpr]
          have hsl : (L.set np (kput ⟨id, k⟩ L[np])).length = L.length := List.length_set ..
          exact rpO_shut hpq (by rw [hsl]; exact hv) hnp hnt (by rw [hsl]; exact hS)
        · skip
          have h3 : ¬ (L[proc.toNat].length : Int) ≥ queue := by simpa using h3
          have hlt2 : proc.toNat < L.length := by omega
          have hltv2 : proc.toNat < vs.length := by omega
          have hki := hp.at hlt2
          have hni : id ∉ kIds L[proc.toNat] := hno _ (List.getElem_mem hlt2)
          have hrm := hki.room hid hni
          have hpe : kPutErr L[proc.toNat] nt nt id k = 0 := by rw [kPutErr, kErr_ok0 (by rw [hri]; simp; omega) hni, if_pos rfl, if_neg (by omega)]
          have hpk : kPut L[proc.toNat] nt nt id k = kput ⟨id, k⟩ L[proc.toNat] := if_pos hpe
          have hto : prTo L np queue proc = proc.toNat := by rw [prTo, hgd, if_neg h3]
          have hS := Sat.objOut (f := rpF nt) hv hlt2 hS
          refine RC.skip ?_
          refine RE.sqN ?_
          refine RC.seq ?_
          refine RC.drawn 11 [0, 1, 2, 3, 4, 5, 6, 7, 8, 9, 10] (fun w' => w'.heap[b]? = some (.cells #[.int .i64 np, .int .i64 nt, .int .i64 queue, .slice (some ⟨bs, 0, none⟩) L.length cap] 84 (0, 0)) ∧ w'.heap[bs]? = some (.cells c 85 (0, 0)) ∧ w'.heap[b7]? = some (.cells k.cells.toArray 31 (0, 0))) (by kernel_rfl) (by kernel_rfl) (⟨by exact hS.drew.get 2 rfl, by exact hS.drew.get 3 rfl, by exact hS.drew.get 4 rfl⟩) (fun hh => ?_)
          replace hS := hS.drew
          refine RH.q hh (Calm.sq Calm.body) rfl (by kernel_rfl) (Qt.mv rfl) ?_
          refine RH.q hh (Calm.sq Calm.body) rfl (by kernel_rfl) (Qt.nil rfl) ?_
          refine RH.q hh (Calm.sq Calm.body) rfl (by kernel_rfl) (Qt.fld rfl) ?_
          refine RH.q hh (Calm.sq Calm.body) rfl (by kernel_rfl) (Qt.ld rfl (by exact fun _ h => h.1) (by rfl)) ?_
          refine RH.q hh (Calm.sq Calm.body) rfl (by kernel_rfl) (Qt.mv rfl) ?_
          refine RH.q hh (Calm.sq Calm.body) rfl (by kernel_rfl) (Qt.ixS rfl rfl (by omega) (by omega)) ?_
          refine RH.q hh (Calm.sq Calm.body) rfl (by kernel_rfl) (Qt.ld rfl (by exact fun _ h => h.2.1) (by exact ptr_cell hc4 hltv2 (by omega))) ?_
          refine RH.q hh (Calm.sq Calm.body) rfl (by kernel_rfl) (Qt.mv rfl) ?_
          refine RH.q hh (Calm.sq Calm.body) rfl (by kernel_rfl) (Qt.ldA rfl (by exact fun _ h => h.2.2) (by exact hkx) (by exact Nat.le_of_ble_eq_true rfl)) ?_
          refine RH.e hh rfl (by kernel_rfl) (Ef.call hS (rsPut vs[proc.toNat] nt nt L[proc.toNat] id k (by omega)) rfl rfl Try.call82 [0] [1, 2, 3, 4, 5] (by decide) rfl rfl) ?_
          rintro v73 w ⟨ps, ⟨rfl, rfl⟩, hS⟩
          refine ⟨⟨by exact hS.get 2 rfl, by exact hS.get 3 rfl, by exact hS.get 4 rfl⟩, ?_⟩
          refine RH.q hh (Calm.sq Calm.body) rfl (by kernel_rfl) (Qt.as rfl) ?_
          refine RH.done hh (by kernel_rfl) ?_
          refine RL.nil ?_
          refine RE.sqN ?_
          refine RC.ret ?_
          rw [hpk] at hS
          have hS := Sat.objIn (f := rpF nt) hv hlt2 (y := kput ⟨id, k⟩ L[proc.toNat]) hS
          have hS := (hS.pick [1, 2, 0, 4] (by decide) rfl).ownMk (cap := cap) (n := L.length) (sz := 1) (cs := vs) 1 rfl hc1 hc2 hc3 hc4
          have hpr : prPut L np nt queue proc id k = L.set proc.toNat (kput ⟨id, k⟩ L[proc.toNat]) := by
            rw [prPut, if_pos he, prUpd, hto, List.getD_eq_getElem?_getD, List.getElem?_eq_getElem hlt2]; rfl
          have hpq : PrOk np nt (L.set proc.toNat (kput ⟨id, k⟩ L[proc.toNat])) := by rw [← hpr]; exact hp.put queue ho
          refine RE.retB rfl (ps := [rpO _ np nt queue _]) ⟨by rw [he, hpe]; rfl, rfl⟩ ?_
          rw [hpr]
          have hsl : (L.set proc.toNat (kput ⟨id, k⟩ L[proc.toNat])).length = L.length := List.length_set ..
          exact rpO_shut hpq (by rw [hsl]; exact hv) hnp hnt (by rw [hsl]; exact hS)
end Go.Proofs

/- The reference of layer 11: Change, Remove. -/
namespace Go.Proofs
open Go Go.Gx
variable {oo : World}

theorem pw_get {L : List (List KItem)} {id : Int} (h : pwOk L id = true) : ∃ (i : Nat) (hi : i < L.length), pwAt L id = i ∧ id ∈ kIds L[i] := by
  rcases pw_spec L id with ⟨h1, _⟩ | ⟨i, hi, h1, h2, _⟩
  · rw [pwOk, h1] at h; cases h
  · exact ⟨i, hi, by rw [pwAt, h1], h2⟩
theorem prUpd_at {L : List (List KItem)} {i : Nat} (hi : i < L.length) (f : List KItem → List KItem) : prUpd L i f = L.set i (f L[i]) := by
  rw [prUpd, List.getD_eq_getElem?_getD, List.getElem?_eq_getElem hi]; rfl
theorem prErr_range {L : List (List KItem)} {nt : Nat} {id : Int} {r t : Bool} (h : id < 0 ∨ id ≥ nt ∨ r = false) : prErr L nt id r t = 2 := if_pos h
theorem prErr_none {L : List (List KItem)} {nt : Nat} {id : Int} {r : Bool} (h : ¬ (id < 0 ∨ id ≥ nt ∨ r = false)) (h2 : pwOk L id = false) : prErr L nt id r true = 6 := by
  rw [prErr, if_neg h, if_pos ⟨rfl, h2⟩]
theorem prErr_ok1 {L : List (List KItem)} {nt : Nat} {id : Int} {r : Bool} (h : ¬ (id < 0 ∨ id ≥ nt ∨ r = false)) (h2 : pwOk L id = true) : prErr L nt id r true = 0 := by
  rw [prErr, if_neg h, if_neg (fun e => by rw [h2] at e; cases e.2), if_neg (fun e => by cases e.1)]
theorem prErr_ok0 {L : List (List KItem)} {nt : Nat} {id : Int} {r : Bool} (h : ¬ (id < 0 ∨ id ≥ nt ∨ r = false)) (h2 : pwOk L id = false) : prErr L nt id r false = 0 := by
  rw [prErr, if_neg h, if_neg (fun e => by cases e.1), if_neg (fun e => by rw [h2] at e; cases e.2)]
theorem prErr_known {L : List (List KItem)} {nt : Nat} {id : Int} {r : Bool} (h : ¬ (id < 0 ∨ id ≥ nt ∨ r = false)) (h2 : pwOk L id = true) : prErr L nt id r false = 5 := by
  rw [prErr, if_neg h, if_neg (fun e => by cases e.1), if_pos ⟨rfl, h2⟩]

set_option maxHeartbeats 4000000 in
theorem rpChange (p : Value) (np nt : Nat) (queue : Int) (L : List (List KItem)) (id : Int) (k : KKey) (ho : k.ok) : Ct Try.prog 58 #[p, .int .i64 id, .agg k.cells.toArray] [rpO p np nt queue L] (fun v ps => v = .int .i64 (prErr L nt id (kRight k) true) ∧ ps = [rpO p np nt queue (prChg L nt id k)]) := by
  refine Ct.enter Try.func58 rfl (Nat.le_of_ble_eq_true rfl) ?_
  intro oo w R hS
  change RC _ _ _ _ _ _ [(0, _), (1, _), (2, _)] _
  obtain ⟨b, sp, cap, vs, rfl, hp, hv, hnp, hnt, hS⟩ := rpO_open hS
  have hlen := hp.len
  have hkx : k.cells.toArray.extract 0 (0 + 3) = k.cells.toArray := rfl
  refine RC.seq ?_
  refine RC.region rfl ?_
  refine RL.e (Ef.box hS rfl) ?_
  rintro _ w ⟨b5, rfl, hS⟩
  try simp (disch := omega) only [cells_agg'] at hS
  refine RL.q (Qt.as rfl) ?_
  refine RL.nil ?_
  refine RE.sqN ?_
  refine RC.seq ?_
  refine RC.seq ?_
  refine RC.region rfl ?_
  refine RL.q (Qt.mv rfl) ?_
  refine RL.q (Qt.eqlN rfl rfl) ?_
  refine RL.nil ?_
  refine RE.sqN ?_
  by_cases hr : id < 0 ∨ id ≥ nt
  · have hg := krange_or hr
    refine RC.condF rfl (rfl) ?_
    refine RC.skip ?_
    refine RE.sqN ?_
    refine RC.seq ?_
    refine RC.seq ?_
    refine RC.region rfl ?_
    refine RL.q (Qt.mv rfl) ?_
    refine RL.q (Qt.lss rfl rfl) ?_
    refine RL.q (Qt.mv rfl) ?_
    refine RLG.start 13 false rfl ?_
    refine RLG.q rfl rfl rfl (fun _ => Qt.mv rfl) ?_
    refine RLG.q rfl rfl rfl (fun _ => Qt.mv rfl) ?_
    refine RLG.q rfl rfl rfl (fun _ => Qt.nil rfl) ?_
    refine RLG.q rfl rfl rfl (fun _ => Qt.fld rfl) ?_
    refine RLG.q rfl rfl rfl (fun hg => by (try simp only [decide_eq_false_iff_not] at hg); exact Qt.ld rfl (by exact hS.at 1 rfl) (by first  | rfl)) ?_
    refine RLG.q rfl rfl rfl (fun hg => by (try simp only [decide_eq_false_iff_not] at hg); exact Qt.geq rfl rfl) ?_
    refine RLG.or rfl rfl ?_
    refine RL.q (Qt.mv rfl) ?_
    refine RL.s (Skips.guard rfl rfl rfl (hg)) ?_
    refine RL.s (Skips.guard rfl rfl rfl (hg)) ?_
    refine RL.s (Skips.guard rfl rfl rfl (hg)) ?_
    refine RL.q ((by exact Qt.pickT rfl (by assumption) rfl)) ?_
    refine RL.nil ?_
    refine RE.sqN ?_
    refine RC.condT rfl (rfl) ?_
    refine RC.seq ?_
    refine RC.region rfl ?_
    refine RL.q (Qt.as rfl) ?_
    refine RL.nil ?_
    refine RE.sqN ?_
    refine RC.ret ?_
    refine RE.sqR ?_
    have he : prErr L nt id (kRight k) true = 2 := prErr_range (by omega)
    refine RE.retB rfl (ps := [rpO _ np nt queue _]) ⟨by rw [he]; rfl, rfl⟩ ?_
    rw [prChg, he, if_neg (by decide)]
    exact rpO_shut hp hv hnp hnt (hS.pick [1, 2, 3, 4] (by decide) rfl)
  · have hg := krange_nor hr
    refine RC.condF rfl (rfl) ?_
    refine RC.skip ?_
    refine RE.sqN ?_
    refine RC.seq ?_
    refine RC.seq ?_
    refine RC.region rfl ?_
    refine RL.q (Qt.mv rfl) ?_
    refine RL.q (Qt.lss rfl rfl) ?_
    refine RL.q (Qt.mv rfl) ?_
    refine RLG.start 13 false rfl ?_
    refine RLG.q rfl rfl rfl (fun _ => Qt.mv rfl) ?_
    refine RLG.q rfl rfl rfl (fun _ => Qt.mv rfl) ?_
    refine RLG.q rfl rfl rfl (fun _ => Qt.nil rfl) ?_
    refine RLG.q rfl rfl rfl (fun _ => Qt.fld rfl) ?_
    refine RLG.q rfl rfl rfl (fun hg => by (try simp only [decide_eq_false_iff_not] at hg); exact Qt.ld rfl (by exact hS.at 1 rfl) (by first  | rfl)) ?_
    refine RLG.q rfl rfl rfl (fun hg => by (try simp only [decide_eq_false_iff_not] at hg); exact Qt.geq rfl rfl) ?_
    refine RLG.or rfl rfl ?_
    refine RL.q (Qt.mv rfl) ?_
    refine RL.q (Qt.ldA rfl (by exact hS.at 0 rfl) (by exact hkx) (by exact Nat.le_of_ble_eq_true rfl)) ?_ (Runs.guard rfl rfl rfl (hg))
    refine RL.e (Ef.call hS (rkRight k) rfl rfl Try.call81 [] [0, 1, 2, 3, 4] (by decide) rfl rfl) ?_ (Runs.guard rfl rfl rfl (hg))
    rintro v23 w ⟨ps, ⟨rfl, rfl⟩, hS⟩
    try rw [List.nil_append] at hS
    refine RL.q (Qt.not rfl) ?_ (Runs.guard rfl rfl rfl (hg))
    refine RL.q ((by exact Qt.pickF rfl (by assumption) rfl)) ?_
    refine RL.nil ?_
    refine RE.sqN ?_
    refine RC.cond rfl (fun h => ?_) (fun h => ?_)
    · refine RC.seq ?_
      refine RC.region rfl ?_
      refine RL.q (Qt.as rfl) ?_
      refine RL.nil ?_
      refine RE.sqN ?_
      refine RC.ret ?_
      refine RE.sqR ?_
      have h : kRight k = false := by simpa using h
      have he : prErr L nt id (kRight k) true = 2 := prErr_range (.inr (.inr h))
      refine RE.retB rfl (ps := [rpO _ np nt queue _]) ⟨by rw [he]; rfl, rfl⟩ ?_
      rw [prChg, he, if_neg (by decide)]
      exact rpO_shut hp hv hnp hnt (hS.pick [1, 2, 3, 4] (by decide) rfl)
    · skip
      have hri : kRight k = true := by simpa using h
      have hrr : ¬ (id < 0 ∨ id ≥ nt ∨ kRight k = false) := by rw [hri]; simpa using hr
      have hS := rpO_shut hp hv hnp hnt (hS.pick [1, 2, 3, 0, 4] (by decide) rfl)
      refine RC.skip ?_
      refine RE.sqN ?_
      refine RC.seq ?_
      refine RC.region rfl ?_
      refine RL.q (Qt.mv rfl) ?_
      refine RL.q (Qt.mv rfl) ?_
      refine RL.e (Ef.call hS (rpWhere _ np nt queue L id) rfl rfl Try.call52 [0] [1, 2] (by decide) rfl rfl) ?_
      rintro v29 w ⟨ps, ⟨rfl, rfl⟩, hS⟩
      refine RL.q (Qt.mv rfl) ?_
      refine RL.q (Qt.ext rfl rfl) ?_
      refine RL.q (Qt.ext rfl rfl) ?_
      refine RL.q (Qt.as rfl) ?_
      refine RL.q (Qt.as rfl) ?_
      refine RL.nil ?_
      refine RE.sqN ?_
      refine RC.seq ?_
      refine RC.seq ?_
      refine RC.region rfl ?_
      refine RL.q (Qt.mv rfl) ?_
      refine RL.q (Qt.not rfl) ?_
      refine RL.nil ?_
      refine RE.sqN ?_
      refine RC.cond rfl (fun h2 => ?_) (fun h2 => ?_)
      · refine RC.seq ?_
        refine RC.region rfl ?_
        refine RL.q (Qt.as rfl) ?_
        refine RL.nil ?_
        refine RE.sqN ?_
        refine RC.ret ?_
        refine RE.sqR ?_
        have h2 : pwOk L id = false := by simpa using h2
        have he := prErr_none hrr h2
        refine RE.retB rfl (ps := [rpO _ np nt queue _]) ⟨by rw [he]; rfl, rfl⟩ ?_
        rw [prChg, he, if_neg (by decide)]
        exact hS.pick [0, 2] (by decide) rfl
      · skip
        have h2 : pwOk L id = true := by simpa using h2
        have he := prErr_ok1 hrr h2
        obtain ⟨i, hi, ha, hm⟩ := pw_get h2
        rw [ha]
        have hki := hp.at hi
        have hle := hki.lenLe
        have hke : kErr L[i] nt id (kRight k) true = 0 := kErr_ok1 hrr hm
        have hpr : prChg L nt id k = L.set i (kChg L[i] nt id k) := by
          rw [prChg, if_pos he, ha, Int.toNat_natCast, prUpd_at hi]
        have hpq : PrOk np nt (L.set i (kChg L[i] nt id k)) := by rw [← hpr]; exact hp.chg ho
        obtain ⟨b2, sp, cap, vs, hb, hp, hv, hnp, hnt, hS⟩ := rpO_open hS
        cases hb
        have hltv : i < vs.length := by omega
        obtain ⟨bs, cap', c, hv', hc1, hc2, hc3, hc4, hS⟩ := hS.ownPos 1 rfl (by omega)
        cases hv'
        have hS := Sat.objOut (f := rpF nt) hv hi (hS.pick [2, 0, 1, 3, 4] (by decide) rfl)
        refine RC.skip ?_
        refine RE.sqN ?_
        refine RC.seq ?_
        refine RC.drawn 11 [0, 1, 2, 3, 4, 5, 6, 7, 8, 9, 10] (fun w' => w'.heap[b]? = some (.cells #[.int .i64 np, .int .i64 nt, .int .i64 queue, .slice (some ⟨bs, 0, none⟩) L.length cap] 84 (0, 0)) ∧ w'.heap[bs]? = some (.cells c 85 (0, 0)) ∧ w'.heap[b5]? = some (.cells k.cells.toArray 31 (0, 0))) (by kernel_rfl) (by kernel_rfl) (⟨by exact hS.drew.get 2 rfl, by exact hS.drew.get 3 rfl, by exact hS.drew.get 4 rfl⟩) (fun hh => ?_)
        replace hS := hS.drew
        refine RH.q hh (Calm.sq Calm.body) rfl (by kernel_rfl) (Qt.mv rfl) ?_
        refine RH.q hh (Calm.sq Calm.body) rfl (by kernel_rfl) (Qt.nil rfl) ?_
        refine RH.q hh (Calm.sq Calm.body) rfl (by kernel_rfl) (Qt.fld rfl) ?_
        refine RH.q hh (Calm.sq Calm.body) rfl (by kernel_rfl) (Qt.ld rfl (by exact fun _ h => h.1) (by rfl)) ?_
        refine RH.q hh (Calm.sq Calm.body) rfl (by kernel_rfl) (Qt.mv rfl) ?_
        refine RH.q hh (Calm.sq Calm.body) rfl (by kernel_rfl) (Qt.ixS rfl rfl (by omega) (by omega)) ?_
        refine RH.q hh (Calm.sq Calm.body) rfl (by kernel_rfl) (Qt.ld rfl (by exact fun _ h => h.2.1) (by exact ptr_cell hc4 hltv (by omega))) ?_
        refine RH.q hh (Calm.sq Calm.body) rfl (by kernel_rfl) (Qt.mv rfl) ?_
        refine RH.q hh (Calm.sq Calm.body) rfl (by kernel_rfl) (Qt.ldA rfl (by exact fun _ h => h.2.2) (by exact hkx) (by exact Nat.le_of_ble_eq_true rfl)) ?_
        refine RH.e hh rfl (by kernel_rfl) (Ef.call hS (rsChange vs[i] nt nt L[i] id k (by omega) hki.nodup) rfl rfl Try.call83 [0] [1, 2, 3, 4, 5] (by decide) rfl rfl) ?_
        rintro v43 w ⟨ps, ⟨rfl, rfl⟩, hS⟩
        refine ⟨⟨by exact hS.get 2 rfl, by exact hS.get 3 rfl, by exact hS.get 4 rfl⟩, ?_⟩
        refine RH.q hh (Calm.sq Calm.body) rfl (by kernel_rfl) (Qt.as rfl) ?_
        refine RH.done hh (by kernel_rfl) ?_
        refine RL.nil ?_
        refine RE.sqN ?_
        refine RC.ret ?_
        have hS := Sat.objIn (f := rpF nt) hv hi (y := kChg L[i] nt id k) hS
        have hS := (hS.pick [1, 2, 0, 4] (by decide) rfl).ownMk (cap := cap) (n := L.length) (sz := 1) (cs := vs) 1 rfl hc1 hc2 hc3 hc4
        refine RE.retB rfl (ps := [rpO _ np nt queue _]) ⟨by rw [he, hke]; rfl, rfl⟩ ?_
        rw [hpr]
        have hsl : (L.set i (kChg L[i] nt id k)).length = L.length := List.length_set ..
        exact rpO_shut hpq (by rw [hsl]; exact hv) hnp hnt (by rw [hsl]; exact hS)

set_option maxHeartbeats 4000000 in
theorem rpRemove (p : Value) (np nt : Nat) (queue : Int) (L : List (List KItem)) (id : Int) : Ct Try.prog 50 #[p, .int .i64 id] [rpO p np nt queue L] (fun v ps => v = .int .i64 (prErr L nt id true true) ∧ ps = [rpO p np nt queue (prRem L nt id)]) := by
  refine Ct.enter Try.func50 rfl (Nat.le_of_ble_eq_true rfl) ?_
  intro oo w R hS
  change RC _ _ _ _ _ _ [(0, _), (1, _)] _
  obtain ⟨b, sp, cap, vs, rfl, hp, hv, hnp, hnt, hS⟩ := rpO_open hS
  have hlen := hp.len
  refine RC.seq ?_
  refine RC.region rfl ?_
  refine RL.q (Qt.as rfl) ?_
  refine RL.nil ?_
  refine RE.sqN ?_
  refine RC.seq ?_
  refine RC.seq ?_
  refine RC.region rfl ?_
  refine RL.q (Qt.mv rfl) ?_
  refine RL.q (Qt.eqlN rfl rfl) ?_
  refine RL.nil ?_
  refine RE.sqN ?_
  refine RC.condF rfl (rfl) ?_
  refine RC.skip ?_
  refine RE.sqN ?_
  refine RC.seq ?_
  refine RC.seq ?_
  refine RC.region rfl ?_
  refine RL.q (Qt.mv rfl) ?_
  refine RL.q (Qt.lss rfl rfl) ?_
  refine RL.q (Qt.mv rfl) ?_
  refine RLG.start 11 false rfl ?_
  refine RLG.q rfl rfl rfl (fun _ => Qt.mv rfl) ?_
  refine RLG.q rfl rfl rfl (fun _ => Qt.mv rfl) ?_
  refine RLG.q rfl rfl rfl (fun _ => Qt.nil rfl) ?_
  refine RLG.q rfl rfl rfl (fun _ => Qt.fld rfl) ?_
  refine RLG.q rfl rfl rfl (fun hg => by (try simp only [decide_eq_false_iff_not] at hg); exact Qt.ld rfl (by exact hS.at 0 rfl) (by first  | rfl)) ?_
  refine RLG.q rfl rfl rfl (fun hg => by (try simp only [decide_eq_false_iff_not] at hg); exact Qt.geq rfl rfl) ?_
  refine RLG.or rfl rfl ?_
  refine RL.nil ?_
  refine RE.sqN ?_
  have hS := rpO_shut hp hv hnp hnt hS
  refine RC.cond rfl (fun h => ?_) (fun h => ?_)
  · refine RC.seq ?_
    refine RC.region rfl ?_
    refine RL.q (Qt.as rfl) ?_
    refine RL.nil ?_
    refine RE.sqN ?_
    refine RC.ret ?_
    refine RE.sqR ?_
    have h : id < 0 ∨ id ≥ nt := by simpa using h
    have he : prErr L nt id true true = 2 := prErr_range (by omega)
    refine RE.retB rfl (ps := [rpO _ np nt queue _]) ⟨by rw [he]; rfl, rfl⟩ ?_
    rw [prRem, he, if_neg (by decide)]
    exact hS
  · skip
    have h : ¬ (id < 0 ∨ id ≥ nt) := by simpa using h
    have hrr : ¬ (id < 0 ∨ id ≥ nt ∨ true = false) := by simpa using h
    refine RC.skip ?_
    refine RE.sqN ?_
    refine RC.seq ?_
    refine RC.region rfl ?_
    refine RL.q (Qt.mv rfl) ?_
    refine RL.q (Qt.mv rfl) ?_
    refine RL.e (Ef.call hS (rpWhere _ np nt queue L id) rfl rfl Try.call52 [0] [1] (by decide) rfl rfl) ?_
    rintro v22 w ⟨ps, ⟨rfl, rfl⟩, hS⟩
    refine RL.q (Qt.mv rfl) ?_
    refine RL.q (Qt.ext rfl rfl) ?_
    refine RL.q (Qt.ext rfl rfl) ?_
    refine RL.q (Qt.as rfl) ?_
    refine RL.q (Qt.as rfl) ?_
    refine RL.nil ?_
    refine RE.sqN ?_
    refine RC.seq ?_
    refine RC.seq ?_
    refine RC.region rfl ?_
    refine RL.q (Qt.mv rfl) ?_
    refine RL.q (Qt.not rfl) ?_
    refine RL.nil ?_
    refine RE.sqN ?_
    refine RC.cond rfl (fun h2 => ?_) (fun h2 => ?_)
    · refine RC.seq ?_
      refine RC.region rfl ?_
      refine RL.q (Qt.as rfl) ?_
      refine RL.nil ?_
      refine RE.sqN ?_
      refine RC.ret ?_
      refine RE.sqR ?_
      have h2 : pwOk L id = false := by simpa using h2
      have he := prErr_none hrr h2
      refine RE.retB rfl (ps := [rpO _ np nt queue _]) ⟨by rw [he]; rfl, rfl⟩ ?_
      rw [prRem, he, if_neg (by decide)]
      exact hS
    · skip
      have h2 : pwOk L id = true := by simpa using h2
      have he := prErr_ok1 hrr h2
      obtain ⟨i, hi, ha, hm⟩ := pw_get h2
      rw [ha]
      have hki := hp.at hi
      have hke : kErr L[i] nt id true true = 0 := kErr_ok1 hrr hm
      have hkr : kRem L[i] nt id = kout L[i] id := if_pos hke
      have hpr : prRem L nt id = L.set i (kout L[i] id) := by
        rw [prRem, if_pos he, ha, Int.toNat_natCast, prUpd_at hi]
      have hpq : PrOk np nt (L.set i (kout L[i] id)) := by rw [← hpr]; exact hp.rem id
      obtain ⟨b2, sp, cap, vs, hb, hp, hv, hnp, hnt, hS⟩ := rpO_open hS
      cases hb
      have hltv : i < vs.length := by omega
      obtain ⟨bs, cap', c, hv', hc1, hc2, hc3, hc4, hS⟩ := hS.ownPos 1 rfl (by omega)
      cases hv'
      have hS := Sat.objOut (f := rpF nt) hv hi (hS.pick [2, 0, 1, 3] (by decide) rfl)
      refine RC.skip ?_
      refine RE.sqN ?_
      refine RC.seq ?_
      refine RC.region rfl ?_
      refine RL.q (Qt.mv rfl) ?_
      refine RL.q (Qt.nil rfl) ?_
      refine RL.q (Qt.fld rfl) ?_
      refine RL.q (Qt.ld rfl (by exact hS.at 2 rfl) (by rfl)) ?_
      refine RL.q (Qt.mv rfl) ?_
      refine RL.q (Qt.ixS rfl rfl (by omega) (by omega)) ?_
      refine RL.q (Qt.ld rfl (by exact hS.at 3 rfl) (by exact ptr_cell hc4 hltv (by omega))) ?_
      refine RL.q (Qt.mv rfl) ?_
      refine RL.e (Ef.call hS (rsRemove vs[i] nt nt L[i] id hki.nodup) rfl rfl Try.call74 [0] [1, 2, 3, 4] (by decide) rfl rfl) ?_
      rintro v35 w ⟨ps, ⟨rfl, rfl⟩, hS⟩
      refine RL.q (Qt.as rfl) ?_
      refine RL.nil ?_
      refine RE.sqN ?_
      refine RC.ret ?_
      rw [hkr] at hS
      have hS := Sat.objIn (f := rpF nt) hv hi (y := kout L[i] id) hS
      have hS := (hS.pick [1, 2, 0, 3] (by decide) rfl).ownMk (cap := cap) (n := L.length) (sz := 1) (cs := vs) 1 rfl hc1 hc2 hc3 hc4
      refine RE.retB rfl (ps := [rpO _ np nt queue _]) ⟨by rw [he, hke]; rfl, rfl⟩ ?_
      rw [hpr]
      have hsl : (L.set i (kout L[i] id)).length = L.length := List.length_set ..
      exact rpO_shut hpq (by rw [hsl]; exact hv) hnp hnt (by rw [hsl]; exact hS)
end Go.Proofs

/- A drawn region with two operations that are ready at once: each order is walked for itself. Nothing of any program stands here. -/
namespace Go.Gx
open Go
section
variable {ρ : Option Nat} {P : Program} {N : Nat} {D : List Deferred} {Q : Exit → Act → World → Prop}
def stepT (ops : Array Oper) (n i j : Nat) (l m : List Nat) : Bool :=
  decide (i < n) && decide (j < n) && decide (Region.ready .any ops (listedBut ops n (i :: l)) = [i, j]) &&
  decide ((listedBut ops n (i :: l)).setIfInBounds i true = listedBut ops n l) && decide ((listedBut ops n (i :: l)).setIfInBounds j true = listedBut ops n (i :: m))
/-- Both may be first: i (then l is left), or j (then i and m are). -/
theorem RH.two {lo : List Oper} {S : World → Prop} {n i j : Nat} {tl : List Oper} {l : List Nat} {E : Env} {w : World} {di dj : Nat} {oi oj : Op} {tyi tyj : TypeId} {pi pj : String} {ai aj : Array Edge} (m : List Nat)
    (hh : Head N lo.toArray n tl) (hoi : lo[i]? = some ⟨some di, oi, tyi, pi, ai, none⟩) (hoj : lo[j]? = some ⟨some dj, oj, tyj, pj, aj, none⟩) (hb : stepT lo.toArray n i j l m = true) (hm : m.length + 1 = l.length)
    (h1 : ∃ R, Ef P N D E w ⟨some di, oi, tyi, pi, ai, none⟩ R ∧ ∀ v w1, R v w1 → S w1 ∧ RH ρ P N D lo.toArray Q S n tl l ((di, v) :: E) w1)
    (h2 : ∃ R, Ef P N D E w ⟨some dj, oj, tyj, pj, aj, none⟩ R ∧ ∀ u w1, R u w1 → S w1 ∧ RH ρ P N D lo.toArray Q S n tl (i :: m) ((dj, u) :: E) w1) :
    RH ρ P N D lo.toArray Q S n tl (i :: l) E w := fun _ a ha listed hl inv => by
  subst hl
  have hoi : lo.toArray[i]? = some ⟨some di, oi, tyi, pi, ai, none⟩ := by simpa using hoi
  have hoj : lo.toArray[j]? = some ⟨some dj, oj, tyj, pj, aj, none⟩ := by simpa using hoj
  simp only [stepT, Bool.and_eq_true, decide_eq_true_eq] at hb
  obtain ⟨⟨⟨⟨hin, hjn⟩, hr0⟩, hs1⟩, hs2⟩ := hb
  have hdi : dstOK N ⟨some di, oi, tyi, pi, ai, none⟩ = true := Array.all_eq_true_iff_forall_mem.1 hh.2.1 _ (Array.mem_of_getElem? hoi)
  have hdj : dstOK N ⟨some dj, oj, tyj, pj, aj, none⟩ = true := Array.all_eq_true_iff_forall_mem.1 hh.2.1 _ (Array.mem_of_getElem? hoj)
  have iv1 := inv.set (i := i) (by rw [hr0]; simp) hin
  have iv2 := inv.set (i := j) (by rw [hr0]; simp) hjn
  rw [hs1] at iv1
  rw [hs2] at iv2
  refine ⟨by rw [hr0]; simp, fun k hk => ?_⟩
  rw [hr0] at hk
  simp only [List.mem_cons, List.not_mem_nil, or_false] at hk
  obtain ⟨R1, f1, f2⟩ := h1
  obtain ⟨R2, g1, g2⟩ := h2
  rcases hk with rfl | rfl
  · refine ⟨hin, ?_⟩
    unfold wpOpIn
    simp only [hoi]
    rw [if_pos (Runs.plain (E := E) rfl a ha.knows)]
    refine f1 ρ a ha _ _ ?_
    intro v w1 hR
    obtain ⟨e1, e2⟩ := f2 v w1 hR
    refine ⟨e1, ?_⟩
    rw [hs1]
    exact e2 e1 _ (ha.put hdi _) _ rfl iv1
  · refine ⟨hjn, ?_⟩
    unfold wpOpIn
    simp only [hoj]
    rw [if_pos (Runs.plain (E := E) rfl a ha.knows)]
    refine g1 ρ a ha _ _ ?_
    intro u w1 hR
    obtain ⟨e1, e2⟩ := g2 u w1 hR
    refine ⟨e1, ?_⟩
    rw [hs2]
    have := e2 e1 _ (ha.put hdj u) _ rfl iv2
    rw [List.length_cons, hm] at this
    exact this
end
end Go.Gx

/- The reference of layer 11: Best. -/
namespace Go.Proofs
open Go Go.Gx
variable {oo : World}

/-- The places in the order of a processor; how far a search has come. -/
def prNth (np : Nat) (proc draw : Int) (i : Nat) : Int := (proc + 1 + draw % np + i) % np
def prOrdTo (np : Nat) (proc draw : Int) (k : Nat) : List Int := [proc, (np : Int)] ++ ((List.range k).map (prNth np proc draw)).filter fun q => decide (q ≠ proc)
def prOrd (np : Nat) (proc draw : Int) : List Int := prOrdTo np proc draw np
def prStep (L : List (List KItem)) (best q : Int) : Int := if L.getD q.toNat [] = [] then best else if best < 0 then q else if kAbove (kTopK (L.getD q.toNat [])) (kTopK (L.getD best.toNat [])) = true then q else best
def prB (L : List (List KItem)) (np : Nat) (proc draw : Int) : Int := if proc < 0 ∨ proc ≥ np then -1 else (prOrd np proc draw).foldl (prStep L) (-1)
def prBId (L : List (List KItem)) (best : Int) : Int := if best < 0 then 0 else kTopId (L.getD best.toNat [])
def prBK (L : List (List KItem)) (best : Int) : KKey := if best < 0 then KKey.none else kTopK (L.getD best.toNat [])
def prBAt (best : Int) : Int := if best < 0 then 0 else best
def prBOk (best : Int) : Bool := decide (0 ≤ best)
def prBV (L : List (List KItem)) (best : Int) : Value := .tuple #[.int .i64 (prBId L best), .agg (prBK L best).cells.toArray, .int .i64 (prBAt best), .bool (prBOk best)]

theorem prOrdTo_succ (np : Nat) (proc draw : Int) (k : Nat) : prOrdTo np proc draw (k + 1) = prOrdTo np proc draw k ++ if prNth np proc draw k ≠ proc then [prNth np proc draw k] else [] := by
  unfold prOrdTo
  rw [List.range_succ, List.map_append, List.filter_append, ← List.append_assoc]
  congr 1
  simp only [List.map_cons, List.map_nil, List.filter_cons, List.filter_nil]
  by_cases h : prNth np proc draw k = proc <;> simp [h]
theorem prNth_range {np : Nat} (h : 1 ≤ np) (proc draw : Int) (k : Nat) : 0 ≤ prNth np proc draw k ∧ prNth np proc draw k < np := by
  unfold prNth
  exact ⟨Int.emod_nonneg _ (by omega), Int.emod_lt_of_pos _ (by omega)⟩
theorem prOrdTo_range {np : Nat} (h : 1 ≤ np) {proc draw : Int} (hp : 0 ≤ proc ∧ proc < np) (k : Nat) : ∀ q ∈ prOrdTo np proc draw k, 0 ≤ q ∧ q < np + 1 := by
  intro q hq
  unfold prOrdTo at hq
  simp only [List.mem_append, List.mem_cons, List.not_mem_nil, or_false, List.mem_filter, List.mem_map, List.mem_range] at hq
  rcases hq with (rfl | rfl) | ⟨⟨i, _, rfl⟩, _⟩
  · omega
  · omega
  · have := prNth_range h proc draw i; omega
theorem prOrdTo_len (np : Nat) (proc draw : Int) (k : Nat) : (prOrdTo np proc draw k).length ≤ k + 2 := by
  unfold prOrdTo
  rw [List.length_append]
  have := List.length_filter_le (fun q => decide (q ≠ proc)) ((List.range k).map (prNth np proc draw))
  simp only [List.length_map, List.length_range, List.length_cons, List.length_nil] at this ⊢
  omega
theorem getD_at {L : List (List KItem)} {i : Nat} (hi : i < L.length) : L.getD i [] = L[i] := by rw [List.getD_eq_getElem?_getD, List.getElem?_eq_getElem hi]; rfl
theorem fold_step (L : List (List KItem)) (os : List Int) {k : Nat} (h : k < os.length) : (os.take (k + 1)).foldl (prStep L) (-1) = prStep L ((os.take k).foldl (prStep L) (-1)) os[k] := by
  rw [List.take_succ_eq_append_getElem h, List.foldl_append]; rfl
theorem kTopOk_iff {l : List KItem} : kTopOk l = false ↔ l = [] := by cases l <;> simp [kTopOk]

theorem fill2 (a c : Int) : Instr.fill (fun i => some (i * 1, 1)) ((Array.range (2 * 1)).map fun x => (Value.int .i64 0).cells[x % (Value.int .i64 0).cells.size]!) [(0, .int .i64 a), (1, .int .i64 c)] = some #[.int .i64 a, .int .i64 c] := by
  have e : ((Array.range (2 * 1)).map fun x => (Value.int .i64 0).cells[x % (Value.int .i64 0).cells.size]!) = #[.int .i64 0, .int .i64 0] := by kernel_rfl
  rw [e]
  rfl

theorem prStep_def (L : List (List KItem)) (best q : Int) : prStep L best q = if L.getD q.toNat [] = [] then best else if best < 0 then q else if kAbove (kTopK (L.getD q.toNat [])) (kTopK (L.getD best.toNat [])) = true then q else best := rfl
theorem fold_range (L : List (List KItem)) {np : Nat} : ∀ (os : List Int) (b0 : Int), (∀ q ∈ os, 0 ≤ q ∧ q < np + 1) → (b0 < 0 ∨ (0 ≤ b0 ∧ b0 < np + 1 ∧ L.getD b0.toNat [] ≠ [])) → (os.foldl (prStep L) b0 < 0 ∨ (0 ≤ os.foldl (prStep L) b0 ∧ os.foldl (prStep L) b0 < np + 1 ∧ L.getD (os.foldl (prStep L) b0).toNat [] ≠ []))
  | [], _, _, h => h
  | q :: t, b0, hq, h => by
    rw [List.foldl_cons]
    refine fold_range L t _ (fun x hx => hq x (List.mem_cons_of_mem _ hx)) ?_
    have h1 := hq q (by simp)
    unfold prStep
    split
    · exact h
    · split
      · exact .inr ⟨h1.1, h1.2, by assumption⟩
      · split
        · exact .inr ⟨h1.1, h1.2, by assumption⟩
        · exact h

set_option maxHeartbeats 4000000 in
theorem rpBest (p : Value) (np nt : Nat) (queue : Int) (L : List (List KItem)) (proc draw : Int) (hdr : 0 ≤ draw ∧ draw ≤ 18446744073709551615) : Ct Try.prog 51 #[p, .int .i64 proc, .int .u64 draw] [rpO p np nt queue L] (fun v ps => v = prBV L (prB L np proc draw) ∧ ps = [rpO p np nt queue L]) := by
  refine Ct.enter Try.func51 rfl (Nat.le_of_ble_eq_true rfl) ?_
  intro oo w R hS
  change RC _ _ _ _ _ _ [(0, _), (1, _), (2, _)] _
  obtain ⟨b, sp, cap, vs, rfl, hp, hv, hnp, hnt, hS⟩ := rpO_open hS
  have hlen := hp.len
  refine RC.seq ?_
  refine RC.region rfl ?_
  refine RL.q (Qt.as rfl) ?_
  refine RL.e (Ef.alloc hS) ?_
  rintro _ w ⟨b7, rfl, hS⟩
  try simp (disch := omega) only [cells_agg'] at hS
  refine RL.q (Qt.as rfl) ?_
  refine RL.q (Qt.as rfl) ?_
  refine RL.nil ?_
  refine RE.sqN ?_
  refine RC.seq ?_
  refine RC.seq ?_
  refine RC.region rfl ?_
  refine RL.q (Qt.mv rfl) ?_
  refine RL.q (Qt.eqlN rfl rfl) ?_
  refine RL.q (Qt.mv rfl) ?_
  refine RLG.start 26 false rfl ?_
  refine RLG.q rfl rfl rfl (fun _ => Qt.mv rfl) ?_
  refine RLG.q rfl rfl rfl (fun hg => by (try simp only [Option.isNone_some] at hg); exact Qt.lss rfl rfl) ?_
  refine RLG.or rfl rfl ?_
  refine RL.q (Qt.mv rfl) ?_
  refine RLG.start 30 false rfl ?_
  refine RLG.q rfl rfl rfl (fun _ => Qt.mv rfl) ?_
  refine RLG.q rfl rfl rfl (fun _ => Qt.mv rfl) ?_
  refine RLG.q rfl rfl rfl (fun _ => Qt.nil rfl) ?_
  refine RLG.q rfl rfl rfl (fun _ => Qt.fld rfl) ?_
  refine RLG.q rfl rfl rfl (fun hg => by (try simp only [decide_eq_false_iff_not, Bool.or_eq_false_iff, Option.isNone_some] at hg); exact Qt.ld rfl (by exact hS.at 1 rfl) (by first  | rfl)) ?_
  refine RLG.q rfl rfl rfl (fun hg => by (try simp only [decide_eq_false_iff_not, Bool.or_eq_false_iff, Option.isNone_some] at hg); exact Qt.geq rfl rfl) ?_
  refine RLG.or rfl rfl ?_
  refine RL.nil ?_
  refine RE.sqN ?_
  refine RC.cond rfl (fun h => ?_) (fun h => ?_)
  · refine RC.seq ?_
    refine RC.region rfl ?_
    refine RL.q (Qt.bldV [.const (Go.Value.bool false), .const (Go.Value.int Go.IntKind.u64 0), .const (Go.Value.int Go.IntKind.u8 0)] rfl rfl (by kernel_rfl)) ?_
    refine RL.q (Qt.as rfl) ?_
    refine RL.e0 (Ef.st hS 0 rfl rfl rfl (by rfl) (by rfl) (by exact Nat.le_of_ble_eq_true rfl)) ?_
    intro _ w hS
    simp (disch := omega) only [List.set_cons_zero, List.set_cons_succ, cells_agg', Nat.zero_add, wr, List.setIfInBounds_toArray] at hS
    refine RL.q (Qt.as rfl) ?_
    refine RL.q (Qt.as rfl) ?_
    refine RL.nil ?_
    refine RE.sqN ?_
    refine RC.ret ?_
    refine RE.sqR ?_
    have h : proc < 0 ∨ proc ≥ np := by simpa using h
    have e : prB L np proc draw = -1 := if_pos h
    rw [e]
    exact RE.retW (vs := [.int .i64 0, .agg KKey.none.cells.toArray, .int .i64 0, .bool false]) (by repeat (first | exact ResW.nil | refine ResW.tmp rfl ?_ | refine ResW.cell (by infer_instance) rfl rfl (by exact hS.get 0 rfl) rfl (Nat.le_of_ble_eq_true rfl) ?_)) ⟨rfl, rfl⟩ (rpO_shut hp hv hnp hnt (hS.pick [1, 2, 3, 4] (by decide) rfl))
  · skip
    have h : ¬ (proc < 0 ∨ proc ≥ np) := by simpa using h
    have hpr : 0 ≤ proc ∧ proc < np := by omega
    have eB : prB L np proc draw = (prOrd np proc draw).foldl (prStep L) (-1) := if_neg h
    rw [eB]
    refine RC.skip ?_
    refine RE.sqN ?_
    refine RC.seq ?_
    refine RC.region rfl ?_
    refine RL.q (Qt.mv rfl) ?_
    refine RL.q (Qt.mv rfl) ?_
    refine RL.q (Qt.nil rfl) ?_
    refine RL.q (Qt.fld rfl) ?_
    refine RL.q (Qt.ld rfl (by exact hS.at 1 rfl) (by first  | rfl)) ?_
    refine RL.e (Ef.bsl hS rfl (fill2 _ _) (by decide) (by decide) (by decide)) ?_
    rintro _ w ⟨b44, rfl, hS⟩
    try simp (disch := omega) only [List.set_cons_zero, List.set_cons_succ, cells_int, cells_bool, cells_ptr, cells_slice, cells_func, cells_agg, cells_map, cells_int', cells_bool', cells_ptr', cells_slice', cells_agg', cells_map', cells_func', Nat.zero_add, wr, List.setIfInBounds_toArray] at hS
    refine RL.q (Qt.as rfl) ?_
    refine RL.nil ?_
    refine RE.sqN ?_
    refine RC.seq ?_
    refine RC.seq ?_
    refine RC.region rfl ?_
    refine RL.q (Qt.as rfl) ?_
    refine RL.nil ?_
    refine RE.sqN ?_
    refine RC.block ?_
    have hm0 : 0 ≤ draw % (np : Int) := Int.emod_nonneg _ (by omega)
    have hm1 : draw % (np : Int) < np := Int.emod_lt_of_pos _ (by omega)
    have hS := hS.ownMk (cap := 2) (n := 2) (sz := 1) (cs := ints [proc, (np : Int)]) 0 rfl rfl (by decide) rfl rfl
    refine RC.loop (γ := Nat × Value) (fun g E w' => E = [(11, .int .i64 g.1), (10, g.2), (7, .pointer (some ⟨b7, 0, none⟩)), (0, .pointer (some ⟨b, 0, none⟩)), (1, .int .i64 proc), (2, .int .u64 draw)] ∧ g.1 ≤ np ∧
      Sat oo w' [ownI g.2 (prOrdTo np proc draw g.1), pt b7 (.cells #[.bool false, .int .u64 0, .int .u8 0] 31 (0, 0)), pt b (.cells #[.int .i64 np, .int .i64 nt, .int .i64 queue, .slice sp L.length cap] 84 (0, 0)), own (.slice sp L.length cap) 85 1 L.length vs, Objs (rpF nt) vs L, R]) (fun g => np - g.1) (0, .slice (some ⟨b44, 0, none⟩) 2 2) _ (by (repeat (first | exact Sub.nil | refine Sub.cons rfl ?_))) ⟨rfl, by dsimp only; omega, hS⟩ ?_
    clear hS
    rintro ⟨k, vo⟩ E w ⟨rfl, hk, hS⟩
    dsimp only at hk hS
    refine RC.seq ?_
    refine RC.seq ?_
    refine RC.region rfl ?_
    refine RL.q (Qt.mv rfl) ?_
    refine RL.q (Qt.mv rfl) ?_
    refine RL.q (Qt.nil rfl) ?_
    refine RL.q (Qt.fld rfl) ?_
    refine RL.q (Qt.ld rfl (by exact hS.at 2 rfl) (by first  | rfl)) ?_
    refine RL.q (Qt.lss rfl rfl) ?_
    refine RL.nil ?_
    refine RE.sqN ?_
    refine RC.cond rfl (fun h2 => ?_) (fun h2 => ?_)
    · skip
      have hlt : k < np := by simpa using h2
      have hlo := prOrdTo_len np proc draw k
      have hsu := prOrdTo_succ np proc draw k
      obtain ⟨spo, cpo, rfl⟩ := hS.ownForm 0 rfl
      refine RC.skip ?_
      refine RE.sqN ?_
      refine RC.seq ?_
      refine RC.block ?_
      refine RC.seq ?_
      refine RC.drawn 19 [0, 1, 2, 3, 4, 5, 6, 7, 8, 9, 10, 11, 12, 13, 14, 15, 16, 17, 18] (Same _) (by kernel_rfl) (by kernel_rfl) Same.drew (fun hh => ?_)
      replace hS := hS.drew
      refine RH.q hh (Calm.sq (Calm.bk (Calm.sq (Calm.lp (Calm.bk (Calm.sq Calm.body)))))) rfl (by kernel_rfl) (Qt.mv rfl) ?_
      refine RH.q hh (Calm.sq (Calm.bk (Calm.sq (Calm.lp (Calm.bk (Calm.sq Calm.body)))))) rfl (by kernel_rfl) ((by exact Qt.addI rfl rfl (by dsimp only [inK]; omega))) ?_
      refine RH.q hh (Calm.sq (Calm.bk (Calm.sq (Calm.lp (Calm.bk (Calm.sq Calm.body)))))) rfl (by kernel_rfl) (Qt.mv rfl) ?_
      refine RH.q hh (Calm.sq (Calm.bk (Calm.sq (Calm.lp (Calm.bk (Calm.sq Calm.body)))))) rfl (by kernel_rfl) (Qt.mv rfl) ?_
      refine RH.q hh (Calm.sq (Calm.bk (Calm.sq (Calm.lp (Calm.bk (Calm.sq Calm.body)))))) rfl (by kernel_rfl) (Qt.nil rfl) ?_
      refine RH.q hh (Calm.sq (Calm.bk (Calm.sq (Calm.lp (Calm.bk (Calm.sq Calm.body)))))) rfl (by kernel_rfl) (Qt.fld rfl) ?_
      refine RH.q hh (Calm.sq (Calm.bk (Calm.sq (Calm.lp (Calm.bk (Calm.sq Calm.body)))))) rfl (by kernel_rfl) (Qt.ld rfl (by exact hS.at 2 rfl) (by first  | rfl)) ?_
      refine RH.q hh (Calm.sq (Calm.bk (Calm.sq (Calm.lp (Calm.bk (Calm.sq Calm.body)))))) rfl (by kernel_rfl) ((by exact Qt.cvtI rfl (by dsimp only [inK]; omega))) ?_
      refine RH.q hh (Calm.sq (Calm.bk (Calm.sq (Calm.lp (Calm.bk (Calm.sq Calm.body)))))) rfl (by kernel_rfl) ((by exact Qt.remI rfl rfl (by omega))) ?_
      refine RH.q hh (Calm.sq (Calm.bk (Calm.sq (Calm.lp (Calm.bk (Calm.sq Calm.body)))))) rfl (by kernel_rfl) ((by exact Qt.cvtI rfl (by dsimp only [inK]; omega))) ?_
      refine RH.q hh (Calm.sq (Calm.bk (Calm.sq (Calm.lp (Calm.bk (Calm.sq Calm.body)))))) rfl (by kernel_rfl) ((by exact Qt.addI rfl rfl (by dsimp only [inK]; omega))) ?_
      refine RH.q hh (Calm.sq (Calm.bk (Calm.sq (Calm.lp (Calm.bk (Calm.sq Calm.body)))))) rfl (by kernel_rfl) (Qt.mv rfl) ?_
      refine RH.q hh (Calm.sq (Calm.bk (Calm.sq (Calm.lp (Calm.bk (Calm.sq Calm.body)))))) rfl (by kernel_rfl) ((by exact Qt.addI rfl rfl (by dsimp only [inK]; omega))) ?_
      refine RH.q hh (Calm.sq (Calm.bk (Calm.sq (Calm.lp (Calm.bk (Calm.sq Calm.body)))))) rfl (by kernel_rfl) (Qt.mv rfl) ?_
      refine RH.q hh (Calm.sq (Calm.bk (Calm.sq (Calm.lp (Calm.bk (Calm.sq Calm.body)))))) rfl (by kernel_rfl) (Qt.nil rfl) ?_
      refine RH.q hh (Calm.sq (Calm.bk (Calm.sq (Calm.lp (Calm.bk (Calm.sq Calm.body)))))) rfl (by kernel_rfl) (Qt.fld rfl) ?_
      refine RH.q hh (Calm.sq (Calm.bk (Calm.sq (Calm.lp (Calm.bk (Calm.sq Calm.body)))))) rfl (by kernel_rfl) (Qt.ld rfl (by exact hS.at 2 rfl) (by first  | rfl)) ?_
      refine RH.q hh (Calm.sq (Calm.bk (Calm.sq (Calm.lp (Calm.bk (Calm.sq Calm.body)))))) rfl (by kernel_rfl) ((by exact Qt.remI rfl rfl (by omega))) ?_
      refine RH.q hh (Calm.sq (Calm.bk (Calm.sq (Calm.lp (Calm.bk (Calm.sq Calm.body)))))) rfl (by kernel_rfl) (Qt.as rfl) ?_
      refine RH.done hh (by kernel_rfl) ?_
      refine RL.nil ?_
      refine RE.sqN ?_
      refine RC.seq ?_
      refine RC.region rfl ?_
      refine RL.q (Qt.mv rfl) ?_
      refine RL.q (Qt.mv rfl) ?_
      refine RL.q (Qt.neq rfl rfl) ?_
      refine RL.nil ?_
      refine RE.sqN ?_
      refine RC.cond rfl (fun h3 => ?_) (fun h3 => ?_)
      · refine RC.region rfl ?_
        refine RL.q (Qt.mv rfl) ?_
        refine RL.q (Qt.mv rfl) ?_
        refine RL.e (Ef.bsl1 hS rfl) ?_
        rintro _ w ⟨b76, rfl, hS⟩
        try simp (disch := omega) only [cells_int'] at hS
        refine RL.e (Ef.app (k := 1) hS rfl rfl rfl (Src.pt (hS.get 0 rfl) (by exact Nat.le_of_ble_eq_true rfl)) (by omega) (by rfl)) ?_
        intro s77 w hS
        simp only [List.set_cons_zero, List.set_cons_succ, List.drop_zero] at hS
        (obtain ⟨sp77, cp77, rfl⟩ := hS.ownForm 1 rfl)
        refine RL.q (Qt.as rfl) ?_
        refine RL.nil ?_
        refine RE.bkN ?_
        refine RE.sqN ?_
        refine RC.region rfl ?_
        refine RL.q (Qt.mv rfl) ?_
        refine RL.q ((by exact Qt.addI rfl rfl (by dsimp only [inK]; omega))) ?_
        refine RL.q (Qt.as rfl) ?_
        refine RL.nil ?_
        have h3 : prNth np proc draw k ≠ proc := of_decide_eq_true h3
        rw [if_pos h3] at hsu
        apply RE.lpN ((k + 1, .slice sp77 ((prOrdTo np proc draw k).length + 1) cp77))
        case hI =>
          refine ⟨rfl, hlt, ?_⟩
          dsimp only
          rw [hsu]
          unfold ownI
          rw [List.length_append, List.length_singleton, ints, List.map_append]
          exact hS.pick [1, 2, 3, 4, 5, 6] (by decide) rfl
        case hs => (repeat (first | exact Sub.nil | refine Sub.cons rfl ?_))
        case hm =>
          show np - (k + 1) < np - k
          omega
      · refine RC.skip ?_
        refine RE.bkN ?_
        refine RE.sqN ?_
        refine RC.region rfl ?_
        refine RL.q (Qt.mv rfl) ?_
        refine RL.q ((by exact Qt.addI rfl rfl (by dsimp only [inK]; omega))) ?_
        refine RL.q (Qt.as rfl) ?_
        refine RL.nil ?_
        have h3 : ¬ prNth np proc draw k ≠ proc := of_decide_eq_false h3
        rw [if_neg h3, List.append_nil] at hsu
        apply RE.lpN ((k + 1, .slice spo (prOrdTo np proc draw k).length cpo))
        case hI => exact ⟨rfl, hlt, by dsimp only; rw [hsu]; exact hS⟩
        case hs => (repeat (first | exact Sub.nil | refine Sub.cons rfl ?_))
        case hm =>
          show np - (k + 1) < np - k
          omega
    · skip
      have hge : k = np := by
        have : ¬ k < np := by simpa using h2
        omega
      rw [hge] at hS
      have hor := prOrdTo_range hnp.1 (draw := draw) hpr np
      have hol := prOrdTo_len np proc draw np
      rw [show prOrd np proc draw = prOrdTo np proc draw np from rfl]
      generalize prOrdTo np proc draw np = os at hS hor hol
      have hbr : ∀ i : Nat, (os.take i).foldl (prStep L) (-1) < 0 ∨ (0 ≤ (os.take i).foldl (prStep L) (-1) ∧ (os.take i).foldl (prStep L) (-1) < np + 1 ∧ L.getD ((os.take i).foldl (prStep L) (-1)).toNat [] ≠ []) := fun i => fold_range L _ _ (fun q hq => hor q (List.mem_of_mem_take hq)) (.inl (by decide))
      have hkw : ∀ k : KKey, (wr #[.bool false, .int .u64 0, .int .u8 0] 0 k.cells).extract 0 (0 + 3) = k.cells.toArray := fun k => rfl
      obtain ⟨spo, cpo, rfl⟩ := hS.ownForm 0 rfl
      refine RC.exit ?_
      refine RE.sqX ?_
      refine RE.lpX ?_
      refine RE.bkX ?_
      refine RE.sqN ?_
      refine RC.seq ?_
      refine RC.region rfl ?_
      refine RL.q (Qt.as rfl) ?_
      refine RL.nil ?_
      refine RE.sqN ?_
      refine RC.seq ?_
      refine RC.seq ?_
      refine RC.region rfl ?_
      refine RL.q (Qt.as rfl) ?_
      refine RL.nil ?_
      refine RE.sqN ?_
      refine RC.block ?_
      refine RC.loop (γ := Nat) (fun i E w' => E = [(14, .int .i64 i), (13, .int .i64 ((os.take i).foldl (prStep L) (-1))), (10, .slice spo os.length cpo), (7, .pointer (some ⟨b7, 0, none⟩)), (0, .pointer (some ⟨b, 0, none⟩))] ∧ i ≤ os.length ∧
        Sat oo w' [ownI (.slice spo os.length cpo) os, pt b7 (.cells #[.bool false, .int .u64 0, .int .u8 0] 31 (0, 0)), pt b (.cells #[.int .i64 np, .int .i64 nt, .int .i64 queue, .slice sp L.length cap] 84 (0, 0)), own (.slice sp L.length cap) 85 1 L.length vs, Objs (rpF nt) vs L, R]) (fun i => os.length - i) 0 _ (by (repeat (first | exact Sub.nil | refine Sub.cons rfl ?_))) ⟨rfl, by omega, hS⟩ ?_
      clear hS
      rintro i E w ⟨rfl, hil, hS⟩
      have hbri := hbr i
      refine RC.seq ?_
      refine RC.seq ?_
      refine RC.region rfl ?_
      refine RL.q (Qt.mv rfl) ?_
      refine RL.q (Qt.mv rfl) ?_
      refine RL.q (Qt.lenS rfl) ?_
      refine RL.q (Qt.lss rfl rfl) ?_
      refine RL.nil ?_
      refine RE.sqN ?_
      refine RC.cond rfl (fun h4 => ?_) (fun h4 => ?_)
      · skip
        have hlt : i < os.length := by simpa using h4
        have hq := hor os[i] (List.getElem_mem hlt)
        have hqL : os[i].toNat < L.length := by omega
        have hqv : os[i].toNat < vs.length := by omega
        have hst := fold_step L os hlt
        rw [prStep_def, getD_at hqL] at hst
        obtain ⟨bs, cap', c, hv', hc1, hc2, hc3, hc4, hS⟩ := hS.ownPos 3 rfl (by omega)
        cases hv'
        obtain ⟨bo, capo, co, hvo, hd1, hd2, hd3, hd4, hS⟩ := hS.ownPos 0 rfl (by omega)
        cases hvo
        have hS := Sat.objOut (f := rpF nt) hv hqL (hS.pick [4, 0, 1, 2, 3, 5] (by decide) rfl)
        refine RC.skip ?_
        refine RE.sqN ?_
        refine RC.seq ?_
        refine RC.block ?_
        refine RC.seq ?_
        refine RC.drawn 19 [0, 1, 2, 3, 4, 5, 6, 7, 8, 9, 10, 11, 12, 13, 14, 15, 16, 17, 18] (fun w' => w'.heap[b]? = some (.cells #[.int .i64 np, .int .i64 nt, .int .i64 queue, .slice (some ⟨bs, 0, none⟩) L.length cap] 84 (0, 0)) ∧ w'.heap[bs]? = some (.cells c 85 (0, 0)) ∧ w'.heap[bo]? = some (.cells co 3 (0, 0))) (by kernel_rfl) (by kernel_rfl) (⟨by exact hS.drew.get 4 rfl, by exact hS.drew.get 5 rfl, by exact hS.drew.get 2 rfl⟩) (fun hh => ?_)
        replace hS := hS.drew
        refine RH.q hh (Calm.sq (Calm.bk (Calm.sq (Calm.lp (Calm.bk (Calm.sq Calm.body)))))) rfl (by kernel_rfl) (Qt.mv rfl) ?_
        refine RH.q hh (Calm.sq (Calm.bk (Calm.sq (Calm.lp (Calm.bk (Calm.sq Calm.body)))))) rfl (by kernel_rfl) (Qt.nil rfl) ?_
        refine RH.q hh (Calm.sq (Calm.bk (Calm.sq (Calm.lp (Calm.bk (Calm.sq Calm.body)))))) rfl (by kernel_rfl) (Qt.fld rfl) ?_
        refine RH.q hh (Calm.sq (Calm.bk (Calm.sq (Calm.lp (Calm.bk (Calm.sq Calm.body)))))) rfl (by kernel_rfl) (Qt.ld rfl (by exact fun _ h => h.1) (by rfl)) ?_
        refine RH.q hh (Calm.sq (Calm.bk (Calm.sq (Calm.lp (Calm.bk (Calm.sq Calm.body)))))) rfl (by kernel_rfl) (Qt.mv rfl) ?_
        refine RH.q hh (Calm.sq (Calm.bk (Calm.sq (Calm.lp (Calm.bk (Calm.sq Calm.body)))))) rfl (by kernel_rfl) (Qt.mv rfl) ?_
        refine RH.q hh (Calm.sq (Calm.bk (Calm.sq (Calm.lp (Calm.bk (Calm.sq Calm.body)))))) rfl (by kernel_rfl) (Qt.ixS rfl rfl (by omega) (by omega)) ?_
        refine RH.q hh (Calm.sq (Calm.bk (Calm.sq (Calm.lp (Calm.bk (Calm.sq Calm.body)))))) rfl (by kernel_rfl) (Qt.ld rfl (by exact fun _ h => h.2.2) (by exact int_cell hd4 rfl hlt)) ?_
        refine RH.q hh (Calm.sq (Calm.bk (Calm.sq (Calm.lp (Calm.bk (Calm.sq Calm.body)))))) rfl (by kernel_rfl) (Qt.ixS rfl rfl (by omega) (by omega)) ?_
        refine RH.q hh (Calm.sq (Calm.bk (Calm.sq (Calm.lp (Calm.bk (Calm.sq Calm.body)))))) rfl (by kernel_rfl) (Qt.ld rfl (by exact fun _ h => h.2.1) (by exact ptr_cell hc4 hqv (by omega))) ?_
        refine RH.two (j := 15) [11, 12, 13, 14, 16, 17, 18] hh rfl rfl (by kernel_rfl) rfl ⟨_, Ef.call hS (rsTop vs[os[i].toNat] nt nt L[os[i].toNat]) rfl rfl Try.call75 [0] [1, 2, 3, 4, 5, 6] (by decide) rfl rfl, ?_⟩ ⟨_, Ef.alloc hS, ?_⟩
        · rintro v95 w ⟨ps, ⟨rfl, rfl⟩, hS⟩
          refine ⟨⟨by exact hS.get 4 rfl, by exact hS.get 5 rfl, by exact hS.get 2 rfl⟩, ?_⟩
          refine RH.q hh (Calm.sq (Calm.bk (Calm.sq (Calm.lp (Calm.bk (Calm.sq Calm.body)))))) rfl (by kernel_rfl) (Qt.mv rfl) ?_
          refine RH.q hh (Calm.sq (Calm.bk (Calm.sq (Calm.lp (Calm.bk (Calm.sq Calm.body)))))) rfl (by kernel_rfl) (Qt.ext rfl rfl) ?_
          refine RH.q hh (Calm.sq (Calm.bk (Calm.sq (Calm.lp (Calm.bk (Calm.sq Calm.body)))))) rfl (by kernel_rfl) (Qt.ext rfl rfl) ?_
          refine RH.q hh (Calm.sq (Calm.bk (Calm.sq (Calm.lp (Calm.bk (Calm.sq Calm.body)))))) rfl (by kernel_rfl) (Qt.ext rfl rfl) ?_
          refine RH.e hh rfl (by kernel_rfl) (Ef.alloc hS) ?_
          rintro _ w ⟨b16, rfl, hS⟩
          try simp (disch := omega) only [cells_agg'] at hS
          refine ⟨⟨by exact hS.get 5 rfl, by exact hS.get 6 rfl, by exact hS.get 3 rfl⟩, ?_⟩
          refine RH.q hh (Calm.sq (Calm.bk (Calm.sq (Calm.lp (Calm.bk (Calm.sq Calm.body)))))) rfl (by kernel_rfl) (Qt.as rfl) ?_
          refine RH.e0 hh rfl (by kernel_rfl) (Ef.st hS 0 rfl rfl rfl (by rfl) (by rfl) (by exact Nat.le_of_ble_eq_true rfl)) ?_
          intro _ w hS
          simp (disch := omega) only [List.set_cons_zero, cells_agg'] at hS
          refine ⟨⟨by exact hS.get 5 rfl, by exact hS.get 6 rfl, by exact hS.get 3 rfl⟩, ?_⟩
          refine RH.q hh (Calm.sq (Calm.bk (Calm.sq (Calm.lp (Calm.bk (Calm.sq Calm.body)))))) rfl (by kernel_rfl) (Qt.as rfl) ?_
          refine RH.done hh (by kernel_rfl) ?_
          refine RL.nil ?_
          refine RE.sqN ?_
          refine RC.seq ?_
          refine RC.seq ?_
          refine RC.region rfl ?_
          refine RL.q (Qt.mv rfl) ?_
          refine RL.q (Qt.not rfl) ?_
          refine RL.nil ?_
          refine RE.sqN ?_
          have hS := Sat.objIn (f := rpF nt) hv hqL (y := L[os[i].toNat]) (hS.pick [1, 2, 3, 4, 5, 6, 0, 7] (by decide) rfl)
          rw [set_same hqL] at hS
          refine RC.cond rfl (fun h5 => ?_) (fun h5 => ?_)
          · refine RC.exit ?_
            refine RE.sqX ?_
            refine RE.bkX ?_
            refine RE.sqN ?_
            refine RC.region rfl ?_
            refine RL.q (Qt.mv rfl) ?_
            refine RL.q ((by exact Qt.addI rfl rfl (by dsimp only [inK]; omega))) ?_
            refine RL.q (Qt.as rfl) ?_
            refine RL.nil ?_
            have h5 : L[os[i].toNat] = [] := kTopOk_iff.1 (by simpa using h5)
            rw [if_pos h5] at hst
            have hS := (hS.pick [1, 2, 3, 4, 0, 6] (by decide) rfl).ownMk (cap := cap) (n := L.length) (sz := 1) (cs := vs) 3 rfl hc1 hc2 hc3 hc4
            have hS := hS.ownMk (cap := cpo) (n := os.length) (sz := 1) (cs := ints os) 0 rfl hd1 hd2 hd3 hd4
            apply RE.lpN (i + 1)
            case hI => exact ⟨by rw [hst], hlt, hS⟩
            case hs => (repeat (first | exact Sub.nil | refine Sub.cons rfl ?_))
            case hm =>
              show os.length - (i + 1) < os.length - i
              omega
          · skip
            have h5 : L[os[i].toNat] ≠ [] := fun e => by rw [kTopOk_iff.2 e] at h5; cases h5
            rw [if_neg h5] at hst
            refine RC.skip ?_
            refine RE.sqN ?_
            refine RC.seq ?_
            refine RC.seq ?_
            refine RC.region rfl ?_
            refine RL.q (Qt.mv rfl) ?_
            refine RL.q (Qt.lss rfl rfl) ?_
            refine RL.nil ?_
            refine RE.sqN ?_
            refine RC.cond rfl (fun h6 => ?_) (fun h6 => ?_)
            · refine RC.seq ?_
              refine RC.region rfl ?_
              refine RL.q (Qt.mv rfl) ?_
              refine RL.q (Qt.mv rfl) ?_
              refine RL.q (Qt.ixS rfl rfl (by omega) (by omega)) ?_
              refine RL.q (Qt.ld rfl (by exact hS.at 1 rfl) (by exact int_cell hd4 rfl hlt)) ?_
              refine RL.q (Qt.as rfl) ?_
              refine RL.nil ?_
              refine RE.sqN ?_
              refine RC.exit ?_
              refine RE.sqX ?_
              refine RE.bkX ?_
              refine RE.sqN ?_
              refine RC.region rfl ?_
              refine RL.q (Qt.mv rfl) ?_
              refine RL.q ((by exact Qt.addI rfl rfl (by dsimp only [inK]; omega))) ?_
              refine RL.q (Qt.as rfl) ?_
              refine RL.nil ?_
              have h6 : (os.take i).foldl (prStep L) (-1) < 0 := of_decide_eq_true h6
              rw [if_pos h6] at hst
              have hS := (hS.pick [1, 2, 3, 4, 0, 6] (by decide) rfl).ownMk (cap := cap) (n := L.length) (sz := 1) (cs := vs) 3 rfl hc1 hc2 hc3 hc4
              have hS := hS.ownMk (cap := cpo) (n := os.length) (sz := 1) (cs := ints os) 0 rfl hd1 hd2 hd3 hd4
              apply RE.lpN (i + 1)
              case hI => exact ⟨by rw [hst], hlt, hS⟩
              case hs => (repeat (first | exact Sub.nil | refine Sub.cons rfl ?_))
              case hm =>
                show os.length - (i + 1) < os.length - i
                omega
            · skip
              have h6 : ¬ (os.take i).foldl (prStep L) (-1) < 0 := of_decide_eq_false h6
              rw [if_neg h6] at hst
              obtain ⟨g0, g1, g2⟩ := hbri.resolve_left h6
              generalize hbb : (os.take i).foldl (prStep L) (-1) = bb at *
              have hbL : bb.toNat < L.length := by omega
              have hbv : bb.toNat < vs.length := by omega
              rw [getD_at hbL] at hst
              have hS := Sat.objOut (f := rpF nt) hv hbL hS
              refine RC.skip ?_
              refine RE.sqN ?_
              refine RC.seq ?_
              refine RC.region rfl ?_
              refine RL.q (Qt.mv rfl) ?_
              refine RL.q (Qt.nil rfl) ?_
              refine RL.q (Qt.fld rfl) ?_
              refine RL.q (Qt.ld rfl (by exact hS.at 4 rfl) (by rfl)) ?_
              refine RL.q (Qt.mv rfl) ?_
              refine RL.q (Qt.ixS rfl rfl (by assumption) (by omega)) ?_
              refine RL.q (Qt.ld rfl (by exact hS.at 5 rfl) (by exact ptr_cell hc4 hbv (by omega))) ?_
              refine RL.e (Ef.call hS (rsTop vs[bb.toNat] nt nt L[bb.toNat]) rfl rfl Try.call75 [0] [1, 2, 3, 4, 5, 6, 7] (by decide) rfl rfl) ?_
              rintro v115 w ⟨ps, ⟨rfl, rfl⟩, hS⟩
              refine RL.q (Qt.mv rfl) ?_
              refine RL.q (Qt.ext rfl rfl) ?_
              refine RL.q (Qt.ext rfl rfl) ?_
              refine RL.q (Qt.ext rfl rfl) ?_
              refine RL.e (Ef.alloc hS) ?_
              rintro _ w ⟨b19, rfl, hS⟩
              try simp (disch := omega) only [cells_agg'] at hS
              refine RL.q (Qt.as rfl) ?_
              refine RL.e0 (Ef.st hS 0 rfl rfl rfl (by rfl) (by rfl) (by exact Nat.le_of_ble_eq_true rfl)) ?_
              intro _ w hS
              simp (disch := omega) only [List.set_cons_zero, cells_agg'] at hS
              refine RL.q (Qt.as rfl) ?_
              refine RL.nil ?_
              refine RE.sqN ?_
              refine RC.seq ?_
              refine RC.region rfl ?_
              refine RL.q (Qt.ldA rfl (by exact hS.at 7 rfl) (by exact hkw _) (by exact Nat.le_of_ble_eq_true rfl)) ?_
              refine RL.q (Qt.ldA rfl (by exact hS.at 0 rfl) (by exact hkw _) (by exact Nat.le_of_ble_eq_true rfl)) ?_
              refine RL.e (Ef.call hS (rkAbove _ _) rfl rfl Try.call30 [] [0, 1, 2, 3, 4, 5, 6, 7, 8] (by decide) rfl rfl) ?_
              rintro v121 w ⟨ps, ⟨rfl, rfl⟩, hS⟩
              try rw [List.nil_append] at hS
              refine RL.nil ?_
              refine RE.sqN ?_
              refine RC.cond rfl (fun h7 => ?_) (fun h7 => ?_)
              · refine RC.region rfl ?_
                refine RL.q (Qt.mv rfl) ?_
                refine RL.q (Qt.mv rfl) ?_
                refine RL.q (Qt.ixS rfl rfl (by omega) (by omega)) ?_
                refine RL.q (Qt.ld rfl (by exact hS.at 3 rfl) (by exact int_cell hd4 rfl hlt)) ?_
                refine RL.q (Qt.as rfl) ?_
                refine RL.nil ?_
                refine RE.bkN ?_
                refine RE.sqN ?_
                refine RC.region rfl ?_
                refine RL.q (Qt.mv rfl) ?_
                refine RL.q ((by exact Qt.addI rfl rfl (by dsimp only [inK]; omega))) ?_
                refine RL.q (Qt.as rfl) ?_
                refine RL.nil ?_
                have h7 : kAbove (kTopK L[os[i].toNat]) (kTopK L[bb.toNat]) = true := h7
                rw [if_pos h7] at hst
                have hS := Sat.objIn (f := rpF nt) hv hbL (y := L[bb.toNat]) (hS.pick [1, 2, 3, 4, 5, 6, 8] (by decide) rfl)
                rw [set_same hbL] at hS
                have hS := (hS.pick [1, 2, 3, 4, 0, 5] (by decide) rfl).ownMk (cap := cap) (n := L.length) (sz := 1) (cs := vs) 3 rfl hc1 hc2 hc3 hc4
                have hS := hS.ownMk (cap := cpo) (n := os.length) (sz := 1) (cs := ints os) 0 rfl hd1 hd2 hd3 hd4
                apply RE.lpN (i + 1)
                case hI => exact ⟨by rw [hst], hlt, hS⟩
                case hs => (repeat (first | exact Sub.nil | refine Sub.cons rfl ?_))
                case hm =>
                  show os.length - (i + 1) < os.length - i
                  omega
              · refine RC.skip ?_
                refine RE.bkN ?_
                refine RE.sqN ?_
                refine RC.region rfl ?_
                refine RL.q (Qt.mv rfl) ?_
                refine RL.q ((by exact Qt.addI rfl rfl (by dsimp only [inK]; omega))) ?_
                refine RL.q (Qt.as rfl) ?_
                refine RL.nil ?_
                have h7 : kAbove (kTopK L[os[i].toNat]) (kTopK L[bb.toNat]) = false := h7
                rw [if_neg (by rw [h7]; decide)] at hst
                have hS := Sat.objIn (f := rpF nt) hv hbL (y := L[bb.toNat]) (hS.pick [1, 2, 3, 4, 5, 6, 8] (by decide) rfl)
                rw [set_same hbL] at hS
                have hS := (hS.pick [1, 2, 3, 4, 0, 5] (by decide) rfl).ownMk (cap := cap) (n := L.length) (sz := 1) (cs := vs) 3 rfl hc1 hc2 hc3 hc4
                have hS := hS.ownMk (cap := cpo) (n := os.length) (sz := 1) (cs := ints os) 0 rfl hd1 hd2 hd3 hd4
                apply RE.lpN (i + 1)
                case hI => exact ⟨by rw [hst], hlt, hS⟩
                case hs => (repeat (first | exact Sub.nil | refine Sub.cons rfl ?_))
                case hm =>
                  show os.length - (i + 1) < os.length - i
                  omega
        · rintro u16 w ⟨b16, rfl, hS⟩
          try simp (disch := omega) only [cells_agg'] at hS
          refine ⟨⟨by exact hS.get 5 rfl, by exact hS.get 6 rfl, by exact hS.get 3 rfl⟩, ?_⟩
          refine RH.e hh rfl (by kernel_rfl) (Ef.call hS (rsTop vs[os[i].toNat] nt nt L[os[i].toNat]) rfl rfl Try.call75 [1] [0, 2, 3, 4, 5, 6, 7] (by decide) rfl rfl) ?_
          rintro v95 w ⟨ps, ⟨rfl, rfl⟩, hS⟩
          refine ⟨⟨by exact hS.get 5 rfl, by exact hS.get 6 rfl, by exact hS.get 3 rfl⟩, ?_⟩
          refine RH.q hh (Calm.sq (Calm.bk (Calm.sq (Calm.lp (Calm.bk (Calm.sq Calm.body)))))) rfl (by kernel_rfl) (Qt.mv rfl) ?_
          refine RH.q hh (Calm.sq (Calm.bk (Calm.sq (Calm.lp (Calm.bk (Calm.sq Calm.body)))))) rfl (by kernel_rfl) (Qt.ext rfl rfl) ?_
          refine RH.q hh (Calm.sq (Calm.bk (Calm.sq (Calm.lp (Calm.bk (Calm.sq Calm.body)))))) rfl (by kernel_rfl) (Qt.ext rfl rfl) ?_
          refine RH.q hh (Calm.sq (Calm.bk (Calm.sq (Calm.lp (Calm.bk (Calm.sq Calm.body)))))) rfl (by kernel_rfl) (Qt.ext rfl rfl) ?_
          refine RH.q hh (Calm.sq (Calm.bk (Calm.sq (Calm.lp (Calm.bk (Calm.sq Calm.body)))))) rfl (by kernel_rfl) (Qt.as rfl) ?_
          refine RH.e0 hh rfl (by kernel_rfl) (Ef.st hS 1 rfl rfl rfl (by rfl) (by rfl) (by exact Nat.le_of_ble_eq_true rfl)) ?_
          intro _ w hS
          simp (disch := omega) only [cells_agg'] at hS
          refine ⟨⟨by exact hS.get 5 rfl, by exact hS.get 6 rfl, by exact hS.get 3 rfl⟩, ?_⟩
          refine RH.q hh (Calm.sq (Calm.bk (Calm.sq (Calm.lp (Calm.bk (Calm.sq Calm.body)))))) rfl (by kernel_rfl) (Qt.as rfl) ?_
          refine RH.done hh (by kernel_rfl) ?_
          refine RL.nil ?_
          refine RE.sqN ?_
          refine RC.seq ?_
          refine RC.seq ?_
          refine RC.region rfl ?_
          refine RL.q (Qt.mv rfl) ?_
          refine RL.q (Qt.not rfl) ?_
          refine RL.nil ?_
          refine RE.sqN ?_
          have hS := Sat.objIn (f := rpF nt) hv hqL (y := L[os[i].toNat]) (hS.pick [0, 2, 3, 4, 5, 6, 1, 7] (by decide) rfl)
          rw [set_same hqL] at hS
          refine RC.cond rfl (fun h5 => ?_) (fun h5 => ?_)
          · refine RC.exit ?_
            refine RE.sqX ?_
            refine RE.bkX ?_
            refine RE.sqN ?_
            refine RC.region rfl ?_
            refine RL.q (Qt.mv rfl) ?_
            refine RL.q ((by exact Qt.addI rfl rfl (by dsimp only [inK]; omega))) ?_
            refine RL.q (Qt.as rfl) ?_
            refine RL.nil ?_
            have h5 : L[os[i].toNat] = [] := kTopOk_iff.1 (by simpa using h5)
            rw [if_pos h5] at hst
            have hS := (hS.pick [1, 2, 3, 4, 0, 6] (by decide) rfl).ownMk (cap := cap) (n := L.length) (sz := 1) (cs := vs) 3 rfl hc1 hc2 hc3 hc4
            have hS := hS.ownMk (cap := cpo) (n := os.length) (sz := 1) (cs := ints os) 0 rfl hd1 hd2 hd3 hd4
            apply RE.lpN (i + 1)
            case hI => exact ⟨by rw [hst], hlt, hS⟩
            case hs => (repeat (first | exact Sub.nil | refine Sub.cons rfl ?_))
            case hm =>
              show os.length - (i + 1) < os.length - i
              omega
          · skip
            have h5 : L[os[i].toNat] ≠ [] := fun e => by rw [kTopOk_iff.2 e] at h5; cases h5
            rw [if_neg h5] at hst
            refine RC.skip ?_
            refine RE.sqN ?_
            refine RC.seq ?_
            refine RC.seq ?_
            refine RC.region rfl ?_
            refine RL.q (Qt.mv rfl) ?_
            refine RL.q (Qt.lss rfl rfl) ?_
            refine RL.nil ?_
            refine RE.sqN ?_
            refine RC.cond rfl (fun h6 => ?_) (fun h6 => ?_)
            · refine RC.seq ?_
              refine RC.region rfl ?_
              refine RL.q (Qt.mv rfl) ?_
              refine RL.q (Qt.mv rfl) ?_
              refine RL.q (Qt.ixS rfl rfl (by omega) (by omega)) ?_
              refine RL.q (Qt.ld rfl (by exact hS.at 1 rfl) (by exact int_cell hd4 rfl hlt)) ?_
              refine RL.q (Qt.as rfl) ?_
              refine RL.nil ?_
              refine RE.sqN ?_
              refine RC.exit ?_
              refine RE.sqX ?_
              refine RE.bkX ?_
              refine RE.sqN ?_
              refine RC.region rfl ?_
              refine RL.q (Qt.mv rfl) ?_
              refine RL.q ((by exact Qt.addI rfl rfl (by dsimp only [inK]; omega))) ?_
              refine RL.q (Qt.as rfl) ?_
              refine RL.nil ?_
              have h6 : (os.take i).foldl (prStep L) (-1) < 0 := of_decide_eq_true h6
              rw [if_pos h6] at hst
              have hS := (hS.pick [1, 2, 3, 4, 0, 6] (by decide) rfl).ownMk (cap := cap) (n := L.length) (sz := 1) (cs := vs) 3 rfl hc1 hc2 hc3 hc4
              have hS := hS.ownMk (cap := cpo) (n := os.length) (sz := 1) (cs := ints os) 0 rfl hd1 hd2 hd3 hd4
              apply RE.lpN (i + 1)
              case hI => exact ⟨by rw [hst], hlt, hS⟩
              case hs => (repeat (first | exact Sub.nil | refine Sub.cons rfl ?_))
              case hm =>
                show os.length - (i + 1) < os.length - i
                omega
            · skip
              have h6 : ¬ (os.take i).foldl (prStep L) (-1) < 0 := of_decide_eq_false h6
              rw [if_neg h6] at hst
              obtain ⟨g0, g1, g2⟩ := hbri.resolve_left h6
              generalize hbb : (os.take i).foldl (prStep L) (-1) = bb at *
              have hbL : bb.toNat < L.length := by omega
              have hbv : bb.toNat < vs.length := by omega
              rw [getD_at hbL] at hst
              have hS := Sat.objOut (f := rpF nt) hv hbL hS
              refine RC.skip ?_
              refine RE.sqN ?_
              refine RC.seq ?_
              refine RC.region rfl ?_
              refine RL.q (Qt.mv rfl) ?_
              refine RL.q (Qt.nil rfl) ?_
              refine RL.q (Qt.fld rfl) ?_
              refine RL.q (Qt.ld rfl (by exact hS.at 4 rfl) (by rfl)) ?_
              refine RL.q (Qt.mv rfl) ?_
              refine RL.q (Qt.ixS rfl rfl (by assumption) (by omega)) ?_
              refine RL.q (Qt.ld rfl (by exact hS.at 5 rfl) (by exact ptr_cell hc4 hbv (by omega))) ?_
              refine RL.e (Ef.call hS (rsTop vs[bb.toNat] nt nt L[bb.toNat]) rfl rfl Try.call75 [0] [1, 2, 3, 4, 5, 6, 7] (by decide) rfl rfl) ?_
              rintro v115 w ⟨ps, ⟨rfl, rfl⟩, hS⟩
              refine RL.q (Qt.mv rfl) ?_
              refine RL.q (Qt.ext rfl rfl) ?_
              refine RL.q (Qt.ext rfl rfl) ?_
              refine RL.q (Qt.ext rfl rfl) ?_
              refine RL.e (Ef.alloc hS) ?_
              rintro _ w ⟨b19, rfl, hS⟩
              try simp (disch := omega) only [cells_agg'] at hS
              refine RL.q (Qt.as rfl) ?_
              refine RL.e0 (Ef.st hS 0 rfl rfl rfl (by rfl) (by rfl) (by exact Nat.le_of_ble_eq_true rfl)) ?_
              intro _ w hS
              simp (disch := omega) only [List.set_cons_zero, cells_agg'] at hS
              refine RL.q (Qt.as rfl) ?_
              refine RL.nil ?_
              refine RE.sqN ?_
              refine RC.seq ?_
              refine RC.region rfl ?_
              refine RL.q (Qt.ldA rfl (by exact hS.at 7 rfl) (by exact hkw _) (by exact Nat.le_of_ble_eq_true rfl)) ?_
              refine RL.q (Qt.ldA rfl (by exact hS.at 0 rfl) (by exact hkw _) (by exact Nat.le_of_ble_eq_true rfl)) ?_
              refine RL.e (Ef.call hS (rkAbove _ _) rfl rfl Try.call30 [] [0, 1, 2, 3, 4, 5, 6, 7, 8] (by decide) rfl rfl) ?_
              rintro v121 w ⟨ps, ⟨rfl, rfl⟩, hS⟩
              try rw [List.nil_append] at hS
              refine RL.nil ?_
              refine RE.sqN ?_
              refine RC.cond rfl (fun h7 => ?_) (fun h7 => ?_)
              · refine RC.region rfl ?_
                refine RL.q (Qt.mv rfl) ?_
                refine RL.q (Qt.mv rfl) ?_
                refine RL.q (Qt.ixS rfl rfl (by omega) (by omega)) ?_
                refine RL.q (Qt.ld rfl (by exact hS.at 3 rfl) (by exact int_cell hd4 rfl hlt)) ?_
                refine RL.q (Qt.as rfl) ?_
                refine RL.nil ?_
                refine RE.bkN ?_
                refine RE.sqN ?_
                refine RC.region rfl ?_
                refine RL.q (Qt.mv rfl) ?_
                refine RL.q ((by exact Qt.addI rfl rfl (by dsimp only [inK]; omega))) ?_
                refine RL.q (Qt.as rfl) ?_
                refine RL.nil ?_
                have h7 : kAbove (kTopK L[os[i].toNat]) (kTopK L[bb.toNat]) = true := h7
                rw [if_pos h7] at hst
                have hS := Sat.objIn (f := rpF nt) hv hbL (y := L[bb.toNat]) (hS.pick [1, 2, 3, 4, 5, 6, 8] (by decide) rfl)
                rw [set_same hbL] at hS
                have hS := (hS.pick [1, 2, 3, 4, 0, 5] (by decide) rfl).ownMk (cap := cap) (n := L.length) (sz := 1) (cs := vs) 3 rfl hc1 hc2 hc3 hc4
                have hS := hS.ownMk (cap := cpo) (n := os.length) (sz := 1) (cs := ints os) 0 rfl hd1 hd2 hd3 hd4
                apply RE.lpN (i + 1)
                case hI => exact ⟨by rw [hst], hlt, hS⟩
                case hs => (repeat (first | exact Sub.nil | refine Sub.cons rfl ?_))
                case hm =>
                  show os.length - (i + 1) < os.length - i
                  omega
              · refine RC.skip ?_
                refine RE.bkN ?_
                refine RE.sqN ?_
                refine RC.region rfl ?_
                refine RL.q (Qt.mv rfl) ?_
                refine RL.q ((by exact Qt.addI rfl rfl (by dsimp only [inK]; omega))) ?_
                refine RL.q (Qt.as rfl) ?_
                refine RL.nil ?_
                have h7 : kAbove (kTopK L[os[i].toNat]) (kTopK L[bb.toNat]) = false := h7
                rw [if_neg (by rw [h7]; decide)] at hst
                have hS := Sat.objIn (f := rpF nt) hv hbL (y := L[bb.toNat]) (hS.pick [1, 2, 3, 4, 5, 6, 8] (by decide) rfl)
                rw [set_same hbL] at hS
                have hS := (hS.pick [1, 2, 3, 4, 0, 5] (by decide) rfl).ownMk (cap := cap) (n := L.length) (sz := 1) (cs := vs) 3 rfl hc1 hc2 hc3 hc4
                have hS := hS.ownMk (cap := cpo) (n := os.length) (sz := 1) (cs := ints os) 0 rfl hd1 hd2 hd3 hd4
                apply RE.lpN (i + 1)
                case hI => exact ⟨by rw [hst], hlt, hS⟩
                case hs => (repeat (first | exact Sub.nil | refine Sub.cons rfl ?_))
                case hm =>
                  show os.length - (i + 1) < os.length - i
                  omega
      · skip
        have hge : i = os.length := by
          have : ¬ i < os.length := by simpa using h4
          omega
        rw [hge, List.take_length] at hbri
        rw [hge, List.take_length]
        have hS := hS.pick [1, 2, 3, 4, 5] (by decide) rfl
        refine RC.exit ?_
        refine RE.sqX ?_
        refine RE.lpX ?_
        refine RE.bkX ?_
        refine RE.sqN ?_
        refine RC.seq ?_
        refine RC.seq ?_
        refine RC.region rfl ?_
        refine RL.q (Qt.mv rfl) ?_
        refine RL.q (Qt.lss rfl rfl) ?_
        refine RL.nil ?_
        refine RE.sqN ?_
        refine RC.cond rfl (fun h5 => ?_) (fun h5 => ?_)
        · refine RC.seq ?_
          refine RC.region rfl ?_
          refine RL.q (Qt.bldV [.const (Go.Value.bool false), .const (Go.Value.int Go.IntKind.u64 0), .const (Go.Value.int Go.IntKind.u8 0)] rfl rfl (by kernel_rfl)) ?_
          refine RL.q (Qt.as rfl) ?_
          refine RL.e0 (Ef.st hS 0 rfl rfl rfl (by rfl) (by rfl) (by exact Nat.le_of_ble_eq_true rfl)) ?_
          intro _ w hS
          simp (disch := omega) only [List.set_cons_zero, List.set_cons_succ, cells_agg', Nat.zero_add, wr, List.setIfInBounds_toArray] at hS
          refine RL.q (Qt.as rfl) ?_
          refine RL.q (Qt.as rfl) ?_
          refine RL.nil ?_
          refine RE.sqN ?_
          refine RC.ret ?_
          refine RE.sqR ?_
          have h5 : os.foldl (prStep L) (-1) < 0 := of_decide_eq_true h5
          have e : prBV L (os.foldl (prStep L) (-1)) = .tuple #[.int .i64 0, .agg KKey.none.cells.toArray, .int .i64 0, .bool false] := by
            rw [prBV, prBId, prBK, prBAt, prBOk, if_pos h5, if_pos h5, if_pos h5, decide_eq_false (by omega)]
          rw [e]
          exact RE.retW (vs := [.int .i64 0, .agg KKey.none.cells.toArray, .int .i64 0, .bool false]) (by repeat (first | exact ResW.nil | refine ResW.tmp rfl ?_ | refine ResW.cell (by infer_instance) rfl rfl (by exact hS.get 0 rfl) rfl (Nat.le_of_ble_eq_true rfl) ?_)) ⟨rfl, rfl⟩ (rpO_shut hp hv hnp hnt (hS.pick [1, 2, 3, 4] (by decide) rfl))
        · skip
          have h5 : ¬ os.foldl (prStep L) (-1) < 0 := of_decide_eq_false h5
          obtain ⟨g0, g1, g2⟩ := hbri.resolve_left h5
          generalize hbb : os.foldl (prStep L) (-1) = bb at *
          have hbL : bb.toNat < L.length := by omega
          have hbv : bb.toNat < vs.length := by omega
          have e : prBV L bb = .tuple #[.int .i64 (kTopId L[bb.toNat]), .agg (kTopK L[bb.toNat]).cells.toArray, .int .i64 bb, .bool true] := by
            rw [prBV, prBId, prBK, prBAt, prBOk, if_neg h5, if_neg h5, if_neg h5, decide_eq_true g0, getD_at hbL]
          rw [e]
          obtain ⟨bs, cap', c, hv', hc1, hc2, hc3, hc4, hS⟩ := hS.ownPos 2 rfl (by omega)
          cases hv'
          have hS := Sat.objOut (f := rpF nt) hv hbL (hS.pick [3, 0, 1, 2, 4] (by decide) rfl)
          refine RC.skip ?_
          refine RE.sqN ?_
          refine RC.seq ?_
          refine RC.region rfl ?_
          refine RL.q (Qt.mv rfl) ?_
          refine RL.q (Qt.nil rfl) ?_
          refine RL.q (Qt.fld rfl) ?_
          refine RL.q (Qt.ld rfl (by exact hS.at 3 rfl) (by rfl)) ?_
          refine RL.q (Qt.mv rfl) ?_
          refine RL.q (Qt.ixS rfl rfl (by assumption) (by omega)) ?_
          refine RL.q (Qt.ld rfl (by exact hS.at 4 rfl) (by exact ptr_cell hc4 hbv (by omega))) ?_
          refine RL.e (Ef.call hS (rsTop vs[bb.toNat] nt nt L[bb.toNat]) rfl rfl Try.call75 [0] [1, 2, 3, 4, 5] (by decide) rfl rfl) ?_
          rintro v137 w ⟨ps, ⟨rfl, rfl⟩, hS⟩
          refine RL.q (Qt.mv rfl) ?_
          refine RL.q (Qt.ext rfl rfl) ?_
          refine RL.q (Qt.ext rfl rfl) ?_
          refine RL.q (Qt.ext rfl rfl) ?_
          refine RL.e (Ef.alloc hS) ?_
          rintro _ w ⟨b22, rfl, hS⟩
          try simp (disch := omega) only [cells_agg'] at hS
          refine RL.q (Qt.as rfl) ?_
          refine RL.e0 (Ef.st hS 0 rfl rfl rfl (by rfl) (by rfl) (by exact Nat.le_of_ble_eq_true rfl)) ?_
          intro _ w hS
          simp (disch := omega) only [List.set_cons_zero, cells_agg'] at hS
          refine RL.q (Qt.as rfl) ?_
          refine RL.nil ?_
          refine RE.sqN ?_
          refine RC.seq ?_
          refine RC.drawn 7 [0, 1, 2, 3, 4, 5, 6] (fun w' => w'.heap[b22]? = some (.cells (wr #[.bool false, .int .u64 0, .int .u8 0] 0 (kTopK L[bb.toNat]).cells) 31 (0, 0))) (by kernel_rfl) (by kernel_rfl) ((by exact hS.drew.get 0 rfl)) (fun hh => ?_)
          replace hS := hS.drew
          refine RH.q hh (Calm.sq Calm.body) rfl (by kernel_rfl) (Qt.mv rfl) ?_
          refine RH.q hh (Calm.sq Calm.body) rfl (by kernel_rfl) (Qt.ldA rfl (fun _ h => h) (by exact hkw _) (by exact Nat.le_of_ble_eq_true rfl)) ?_
          refine RH.q hh (Calm.sq Calm.body) rfl (by kernel_rfl) (Qt.mv rfl) ?_
          refine RH.q hh (Calm.sq Calm.body) rfl (by kernel_rfl) (Qt.as rfl) ?_
          refine RH.e0 hh rfl (by kernel_rfl) (Ef.st hS 3 rfl rfl rfl (by rfl) (by rfl) (by exact Nat.le_of_ble_eq_true rfl)) ?_
          intro _ w hS
          simp (disch := omega) only [List.set_cons_succ, cells_agg'] at hS
          refine ⟨(by exact hS.get 0 rfl), ?_⟩
          refine RH.q hh (Calm.sq Calm.body) rfl (by kernel_rfl) (Qt.as rfl) ?_
          refine RH.q hh (Calm.sq Calm.body) rfl (by kernel_rfl) (Qt.as rfl) ?_
          refine RH.done hh (by kernel_rfl) ?_
          refine RL.nil ?_
          refine RE.sqN ?_
          refine RC.ret ?_
          have hS := Sat.objIn (f := rpF nt) hv hbL (y := L[bb.toNat]) (hS.pick [1, 2, 3, 4, 5, 6] (by decide) rfl)
          rw [set_same hbL] at hS
          have hS := hS.ownMk (cap := cap) (n := L.length) (sz := 1) (cs := vs) 3 rfl hc1 hc2 hc3 hc4
          exact RE.retW (vs := [.int .i64 (kTopId L[bb.toNat]), .agg (kTopK L[bb.toNat]).cells.toArray, .int .i64 bb, .bool true]) (by repeat (first | exact ResW.nil | refine ResW.tmp rfl ?_ | refine ResW.cell (by infer_instance) rfl rfl (by exact hS.get 1 rfl) rfl (Nat.le_of_ble_eq_true rfl) ?_)) ⟨rfl, rfl⟩ (rpO_shut hp hv hnp hnt (hS.pick [2, 3, 0, 4] (by decide) rfl))
end Go.Proofs

/- The reference of layer 11: Take. -/
namespace Go.Proofs
open Go Go.Gx
variable {oo : World}

def prTake (L : List (List KItem)) (best : Int) : List (List KItem) := if best < 0 then L else prUpd L best.toNat List.tail
theorem prB_range {L : List (List KItem)} {np : Nat} (h1 : 1 ≤ np) (proc draw : Int) : prB L np proc draw < 0 ∨ (0 ≤ prB L np proc draw ∧ prB L np proc draw < np + 1 ∧ L.getD (prB L np proc draw).toNat [] ≠ []) := by
  unfold prB
  split
  · exact .inl (by decide)
  · exact fold_range L _ _ (fun q hq => prOrdTo_range h1 (by omega) np q hq) (.inl (by decide))
theorem PrOk.take {np nt : Nat} {L : List (List KItem)} (h : PrOk np nt L) (best : Int) : PrOk np nt (prTake L best) := by
  unfold prTake; split
  · exact h
  · refine h.upd (fun l hl => hl.tail) fun l hl a ha => ?_
    obtain ⟨y, hy, rfl⟩ := List.mem_map.1 ha
    exact List.mem_map.2 ⟨y, List.mem_of_mem_tail hy, rfl⟩

set_option maxHeartbeats 2000000 in
theorem rpTake (p : Value) (np nt : Nat) (queue : Int) (L : List (List KItem)) (proc draw : Int) (hdr : 0 ≤ draw ∧ draw ≤ 18446744073709551615) : Ct Try.prog 59 #[p, .int .i64 proc, .int .u64 draw] [rpO p np nt queue L] (fun v ps => v = prBV L (prB L np proc draw) ∧ ps = [rpO p np nt queue (prTake L (prB L np proc draw))]) := by
  refine Ct.enter Try.func59 rfl (Nat.le_of_ble_eq_true rfl) ?_
  intro oo w R hS
  change RC _ _ _ _ _ _ [(0, _), (1, _), (2, _)] _
  obtain ⟨b0, sp0, cap0, vs0, rfl, hp, hv0, hnp, hnt, hS⟩ := rpO_open hS
  have hS := rpO_shut hp hv0 hnp hnt hS
  have hlen := hp.len
  have hbr := prB_range (L := L) hnp.1 proc draw
  have hkw : ∀ k : KKey, (wr #[.bool false, .int .u64 0, .int .u8 0] 0 k.cells).extract 0 (0 + 3) = k.cells.toArray := fun k => rfl
  refine RC.seq ?_
  refine RC.region rfl ?_
  refine RL.q (Qt.as rfl) ?_
  refine RL.e (Ef.alloc hS) ?_
  rintro _ w ⟨b7, rfl, hS⟩
  try simp (disch := omega) only [cells_agg'] at hS
  refine RL.q (Qt.as rfl) ?_
  refine RL.q (Qt.as rfl) ?_
  refine RL.nil ?_
  refine RE.sqN ?_
  refine RC.seq ?_
  refine RC.region rfl ?_
  refine RL.q (Qt.mv rfl) ?_
  refine RL.q (Qt.mv rfl) ?_
  refine RL.q (Qt.mv rfl) ?_
  refine RL.e (Ef.call hS (rpBest _ np nt queue L proc draw hdr) rfl rfl Try.call51 [1] [0, 2] (by decide) rfl rfl) ?_
  rintro v18 w ⟨ps, ⟨rfl, rfl⟩, hS⟩
  refine RL.q (Qt.mv rfl) ?_
  refine RL.q (Qt.ext rfl rfl) ?_
  refine RL.q (Qt.ext rfl rfl) ?_
  refine RL.q (Qt.ext rfl rfl) ?_
  refine RL.q (Qt.ext rfl rfl) ?_
  refine RL.e (Ef.alloc hS) ?_
  rintro _ w ⟨b11, rfl, hS⟩
  try simp (disch := omega) only [cells_agg'] at hS
  refine RL.q (Qt.as rfl) ?_
  refine RL.e0 (Ef.st hS 0 rfl rfl rfl (by rfl) (by rfl) (by exact Nat.le_of_ble_eq_true rfl)) ?_
  intro _ w hS
  simp (disch := omega) only [List.set_cons_zero, cells_agg'] at hS
  refine RL.q (Qt.as rfl) ?_
  refine RL.q (Qt.as rfl) ?_
  refine RL.nil ?_
  refine RE.sqN ?_
  refine RC.seq ?_
  refine RC.seq ?_
  refine RC.region rfl ?_
  refine RL.q (Qt.mv rfl) ?_
  refine RL.nil ?_
  refine RE.sqN ?_
  generalize hbb : prB L np proc draw = bb at *
  refine RC.cond rfl (fun h => ?_) (fun h => ?_)
  · skip
    have h : 0 ≤ bb := of_decide_eq_true h
    have hn : ¬ bb < 0 := by omega
    obtain ⟨g0, g1, g2⟩ := hbr.resolve_left hn
    have hbL : bb.toNat < L.length := by omega
    have eAt : prBAt bb = bb := if_neg hn
    have hpr : prTake L bb = L.set bb.toNat L[bb.toNat].tail := by rw [prTake, if_neg hn, prUpd_at hbL]
    have hpq := hp.take bb
    rw [hpr] at hpq
    rw [eAt, hpr]
    obtain ⟨b, sp, cap, vs, hb, _, hv, _, _, hS⟩ := rpO_open (hS.pick [1, 0, 2, 3] (by decide) rfl)
    cases hb
    have hbv : bb.toNat < vs.length := by omega
    obtain ⟨bs, cap', c, hv', hc1, hc2, hc3, hc4, hS⟩ := hS.ownPos 1 rfl (by omega)
    cases hv'
    have hS := Sat.objOut (f := rpF nt) hv hbL (hS.pick [2, 0, 1, 3, 4, 5] (by decide) rfl)
    refine RC.region rfl ?_
    refine RL.q (Qt.mv rfl) ?_
    refine RL.q (Qt.nil rfl) ?_
    refine RL.q (Qt.fld rfl) ?_
    refine RL.q (Qt.ld rfl (by exact hS.at 2 rfl) (by rfl)) ?_
    refine RL.q (Qt.mv rfl) ?_
    refine RL.q (Qt.ixS rfl rfl (by assumption) (by omega)) ?_
    refine RL.q (Qt.ld rfl (by exact hS.at 3 rfl) (by exact ptr_cell hc4 hbv (by omega))) ?_
    refine RL.e (Ef.call hS (rsTake vs[bb.toNat] nt nt L[bb.toNat]) rfl rfl Try.call84 [0] [1, 2, 3, 4, 5, 6] (by decide) rfl rfl) ?_
    rintro v31 w ⟨ps, ⟨rfl, rfl⟩, hS⟩
    refine RL.nil ?_
    refine RE.sqN ?_
    refine RC.seq ?_
    refine RC.drawn 8 [0, 1, 2, 3, 4, 5, 6, 7] (fun w' => w'.heap[b11]? = some (.cells (wr #[.bool false, .int .u64 0, .int .u8 0] 0 (prBK L bb).cells) 31 (0, 0))) (by kernel_rfl) (by kernel_rfl) ((by exact hS.drew.get 4 rfl)) (fun hh => ?_)
    replace hS := hS.drew
    refine RH.q hh (Calm.sq Calm.body) rfl (by kernel_rfl) (Qt.mv rfl) ?_
    refine RH.q hh (Calm.sq Calm.body) rfl (by kernel_rfl) (Qt.ldA rfl (fun _ h => h) (by exact hkw _) (by exact Nat.le_of_ble_eq_true rfl)) ?_
    refine RH.q hh (Calm.sq Calm.body) rfl (by kernel_rfl) (Qt.mv rfl) ?_
    refine RH.q hh (Calm.sq Calm.body) rfl (by kernel_rfl) (Qt.mv rfl) ?_
    refine RH.q hh (Calm.sq Calm.body) rfl (by kernel_rfl) (Qt.as rfl) ?_
    refine RH.e0 hh rfl (by kernel_rfl) (Ef.st hS 5 rfl rfl rfl (by rfl) (by rfl) (by exact Nat.le_of_ble_eq_true rfl)) ?_
    intro _ w hS
    simp (disch := omega) only [cells_agg'] at hS
    refine ⟨(by exact hS.get 4 rfl), ?_⟩
    refine RH.q hh (Calm.sq Calm.body) rfl (by kernel_rfl) (Qt.as rfl) ?_
    refine RH.q hh (Calm.sq Calm.body) rfl (by kernel_rfl) (Qt.as rfl) ?_
    refine RH.done hh (by kernel_rfl) ?_
    refine RL.nil ?_
    refine RE.sqN ?_
    refine RC.ret ?_
    have hS := Sat.objIn (f := rpF nt) hv hbL (y := L[bb.toNat].tail) hS
    have hS := hS.ownMk (cap := cap) (n := L.length) (sz := 1) (cs := vs) 2 rfl hc1 hc2 hc3 hc4
    have hsl : (L.set bb.toNat L[bb.toNat].tail).length = L.length := List.length_set ..
    refine RE.retW (vs := [.int .i64 (prBId L bb), .agg (prBK L bb).cells.toArray, .int .i64 bb, .bool (prBOk bb)]) (by repeat (first | exact ResW.nil | refine ResW.tmp rfl ?_ | refine ResW.cell (by infer_instance) rfl rfl (by exact hS.get 4 rfl) rfl (Nat.le_of_ble_eq_true rfl) ?_)) ⟨by simp only [oneOf, prBV, eAt], rfl⟩ (rpO_shut (s := .slice (some ⟨bs, 0, none⟩) L.length cap) hpq (by rw [hsl]; exact hv) hnp hnt ?_)
    rw [hsl]
    exact hS.pick [1, 2, 0, 5] (by decide) rfl
  · refine RC.skip ?_
    refine RE.sqN ?_
    refine RC.seq ?_
    refine RC.drawn 8 [0, 1, 2, 3, 4, 5, 6, 7] (fun w' => w'.heap[b11]? = some (.cells (wr #[.bool false, .int .u64 0, .int .u8 0] 0 (prBK L bb).cells) 31 (0, 0))) (by kernel_rfl) (by kernel_rfl) ((by exact hS.drew.get 0 rfl)) (fun hh => ?_)
    replace hS := hS.drew
    refine RH.q hh (Calm.sq Calm.body) rfl (by kernel_rfl) (Qt.mv rfl) ?_
    refine RH.q hh (Calm.sq Calm.body) rfl (by kernel_rfl) (Qt.ldA rfl (fun _ h => h) (by exact hkw _) (by exact Nat.le_of_ble_eq_true rfl)) ?_
    refine RH.q hh (Calm.sq Calm.body) rfl (by kernel_rfl) (Qt.mv rfl) ?_
    refine RH.q hh (Calm.sq Calm.body) rfl (by kernel_rfl) (Qt.mv rfl) ?_
    refine RH.q hh (Calm.sq Calm.body) rfl (by kernel_rfl) (Qt.as rfl) ?_
    refine RH.e0 hh rfl (by kernel_rfl) (Ef.st hS 2 rfl rfl rfl (by rfl) (by rfl) (by exact Nat.le_of_ble_eq_true rfl)) ?_
    intro _ w hS
    simp (disch := omega) only [List.set_cons_succ, cells_agg'] at hS
    refine ⟨(by exact hS.get 0 rfl), ?_⟩
    refine RH.q hh (Calm.sq Calm.body) rfl (by kernel_rfl) (Qt.as rfl) ?_
    refine RH.q hh (Calm.sq Calm.body) rfl (by kernel_rfl) (Qt.as rfl) ?_
    refine RH.done hh (by kernel_rfl) ?_
    refine RL.nil ?_
    refine RE.sqN ?_
    refine RC.ret ?_
    have h : ¬ 0 ≤ bb := of_decide_eq_false h
    have hpr : prTake L bb = L := if_pos (by omega)
    rw [hpr]
    exact RE.retW (vs := [.int .i64 (prBId L bb), .agg (prBK L bb).cells.toArray, .int .i64 (prBAt bb), .bool (prBOk bb)]) (by repeat (first | exact ResW.nil | refine ResW.tmp rfl ?_ | refine ResW.cell (by infer_instance) rfl rfl (by exact hS.get 2 rfl) rfl (Nat.le_of_ble_eq_true rfl) ?_)) ⟨rfl, rfl⟩ (hS.pick [1, 3] (by decide) rfl)
end Go.Proofs

/- The reference of layer 11: New. -/
namespace Go.Proofs
open Go Go.Gx
variable {oo : World}

theorem objs_snoc {α : Type} (f : Value → α → HP) {vs : List Value} {xs : List α} (h : vs.length = xs.length) (v : Value) (y : α) : objs f (vs ++ [v]) (xs ++ [y]) = objs f vs xs ++ [f v y] := by
  unfold objs
  rw [List.zip_append h, List.map_append]; rfl
theorem Sat.objSnoc {α : Type} {f : Value → α → HP} {w : World} {vs : List Value} {xs : List α} {v : Value} {y : α} {M : List HP} (h : vs.length = xs.length) (hS : Sat oo w (Objs f vs xs :: f v y :: M)) : Sat oo w (Objs f (vs ++ [v]) (xs ++ [y]) :: M) := by
  unfold Objs at hS ⊢
  rw [objs_snoc f h]
  refine Sat.star (B := objs f vs xs ++ [f v y]) (L := M) ?_
  have := hS.unstar
  simpa using this
theorem Sat.objNil {α : Type} {f : Value → α → HP} {w : World} {M : List HP} (hS : Sat oo w M) : Sat oo w (Objs f [] [] :: M) := Sat.star (B := []) hS
theorem rsO_fact {F : Frag} {p : Value} {n : Nat} {most : Int} {l : List KItem} (h : rsO p n most l F) : ∃ b, p = .pointer (some ⟨b, 0, none⟩) := by
  obtain ⟨b, s, ⟨h1, _⟩, _⟩ := h
  exact ⟨b, h1⟩
theorem rsNewR (n : Nat) (h0 : 1 ≤ n) (h1 : n ≤ 1024) : Ct Try.prog 70 #[.int .i64 n, .int .i64 n] [] (fun v ps => (∃ b, v = .pointer (some ⟨b, 0, none⟩)) ∧ ps = [rsO v n n []]) := fun oo w R hS =>
  (rsNew n n (by omega) (by omega) (by omega) (by omega) oo w R hS).mono fun e w' ⟨v, ps, he, hp, hS'⟩ => by
    subst hp
    rw [Int.toNat_natCast] at hS'
    exact ⟨v, _, he, ⟨hS'.fact 0 rfl (fun F hF => rsO_fact hF), rfl⟩, hS'⟩

set_option maxHeartbeats 2000000 in
theorem rpNew (np nt : Nat) (queue : Int) (h0 : 1 ≤ np) (h1 : np ≤ 64) (h2 : 1 ≤ nt) (h3 : nt ≤ 1024) (h4 : 1 ≤ queue) (h5 : queue ≤ 256) : Ct Try.prog 44 #[.int .i64 np, .int .i64 nt, .int .i64 queue] [] (fun v ps => (∃ b, v = .pointer (some ⟨b, 0, none⟩)) ∧ ps = [rpO v np nt queue (List.replicate (np + 1) [])]) := by
  refine Ct.enter Try.func44 rfl (Nat.le_of_ble_eq_true rfl) ?_
  intro oo w R hS
  change RC _ _ _ _ _ _ [(0, _), (1, _), (2, _)] _
  refine RC.seq ?_
  refine RC.region rfl ?_
  refine RL.q (Qt.as rfl) ?_
  refine RL.nil ?_
  refine RE.sqN ?_
  refine RC.seq ?_
  refine RC.seq ?_
  refine RC.region rfl ?_
  refine RL.q (Qt.mv rfl) ?_
  refine RL.q (Qt.lss rfl rfl) ?_
  refine RL.q (Qt.mv rfl) ?_
  refine RLG.start 11 false rfl ?_
  refine RLG.q rfl rfl rfl (fun _ => Qt.mv rfl) ?_
  refine RLG.q rfl rfl rfl (fun hg => by (try simp only [decide_eq_false_iff_not] at hg); exact Qt.gtr rfl rfl) ?_
  refine RLG.or rfl rfl ?_
  refine RL.q (Qt.mv rfl) ?_
  refine RLG.start 15 false rfl ?_
  refine RLG.q rfl rfl rfl (fun _ => Qt.mv rfl) ?_
  refine RLG.q rfl rfl rfl (fun hg => by (try simp only [decide_eq_false_iff_not, Bool.or_eq_false_iff] at hg); exact Qt.lss rfl rfl) ?_
  refine RLG.or rfl rfl ?_
  refine RL.q (Qt.mv rfl) ?_
  refine RLG.start 19 false rfl ?_
  refine RLG.q rfl rfl rfl (fun _ => Qt.mv rfl) ?_
  refine RLG.q rfl rfl rfl (fun hg => by (try simp only [decide_eq_false_iff_not, Bool.or_eq_false_iff] at hg); exact Qt.gtr rfl rfl) ?_
  refine RLG.or rfl rfl ?_
  refine RL.q (Qt.mv rfl) ?_
  refine RLG.start 23 false rfl ?_
  refine RLG.q rfl rfl rfl (fun _ => Qt.mv rfl) ?_
  refine RLG.q rfl rfl rfl (fun hg => by (try simp only [decide_eq_false_iff_not, Bool.or_eq_false_iff] at hg); exact Qt.lss rfl rfl) ?_
  refine RLG.or rfl rfl ?_
  refine RL.q (Qt.mv rfl) ?_
  refine RLG.start 27 false rfl ?_
  refine RLG.q rfl rfl rfl (fun _ => Qt.mv rfl) ?_
  refine RLG.q rfl rfl rfl (fun hg => by (try simp only [decide_eq_false_iff_not, Bool.or_eq_false_iff] at hg); exact Qt.gtr rfl rfl) ?_
  refine RLG.or rfl rfl ?_
  refine RL.nil ?_
  refine RE.sqN ?_
  refine RC.condF rfl (by simp; omega) ?_
  refine RC.skip ?_
  refine RE.sqN ?_
  refine RC.seq ?_
  refine RC.region rfl ?_
  refine RL.q (Qt.mv rfl) ?_
  refine RL.q (Qt.mv rfl) ?_
  refine RL.q (Qt.mv rfl) ?_
  refine RL.q (Qt.bldV [.tmp 31, .tmp 32, .tmp 33, .const (Go.Value.slice none 0 0)] rfl rfl (by kernel_rfl)) ?_
  refine RL.e (Ef.box hS rfl) ?_
  rintro _ w ⟨b35, rfl, hS⟩
  try simp (disch := omega) only [cells_agg'] at hS
  refine RL.q (Qt.as rfl) ?_
  refine RL.nil ?_
  refine RE.sqN ?_
  refine RC.seq ?_
  refine RC.seq ?_
  refine RC.region rfl ?_
  refine RL.q (Qt.as rfl) ?_
  refine RL.nil ?_
  refine RE.sqN ?_
  refine RC.block ?_
  have hS := (Sat.objNil (f := rpF nt) hS).nilOwn (T := 85) (sz := 1)
  refine RC.loop (γ := Nat × Value × List Value) (fun g E w' => E = [(8, .int .i64 g.1), (7, .pointer (some ⟨b35, 0, none⟩)), (0, .int .i64 np), (1, .int .i64 nt)] ∧ (g.1 ≤ np + 1 ∧ g.2.2.length = g.1) ∧ Sat oo w' [own g.2.1 85 1 g.1 g.2.2, Objs (rpF nt) g.2.2 (List.replicate g.1 []), pt b35 (.cells #[.int .i64 np, .int .i64 nt, .int .i64 queue, g.2.1] 84 (0, 0)), R]) (fun g => np + 1 - g.1) (0, .slice none 0 0, []) _ (by (repeat (first | exact Sub.nil | refine Sub.cons rfl ?_))) ⟨rfl, ⟨by dsimp only; omega, rfl⟩, hS⟩ ?_
  clear hS
  rintro ⟨k, v, vs⟩ E w ⟨rfl, ⟨hk, hvk⟩, hS⟩
  dsimp only at hk hvk hS
  refine RC.seq ?_
  refine RC.seq ?_
  refine RC.region rfl ?_
  refine RL.q (Qt.mv rfl) ?_
  refine RL.q (Qt.mv rfl) ?_
  refine RL.q (Qt.leq rfl rfl) ?_
  refine RL.nil ?_
  refine RE.sqN ?_
  refine RC.cond rfl (fun h => ?_) (fun h => ?_)
  · skip
    have hlt : k ≤ np := by simpa using h
    obtain ⟨sp, cap, rfl⟩ := hS.ownForm 0 rfl
    refine RC.skip ?_
    refine RE.sqN ?_
    refine RC.seq ?_
    refine RC.block ?_
    refine RC.drawn 12 [0, 1, 2, 3, 4, 5, 6, 7, 8, 9, 10, 11] (fun w' => w'.heap[b35]? = some (.cells #[.int .i64 np, .int .i64 nt, .int .i64 queue, .slice sp k cap] 84 (0, 0))) (by kernel_rfl) (by kernel_rfl) (hS.drew.get 2 rfl) (fun hh => ?_)
    replace hS := hS.drew
    refine RH.q hh (Calm.bk (Calm.sq (Calm.lp (Calm.bk (Calm.sq Calm.body))))) rfl (by kernel_rfl) (Qt.mv rfl) ?_
    refine RH.q hh (Calm.bk (Calm.sq (Calm.lp (Calm.bk (Calm.sq Calm.body))))) rfl (by kernel_rfl) (Qt.mv rfl) ?_
    refine RH.q hh (Calm.bk (Calm.sq (Calm.lp (Calm.bk (Calm.sq Calm.body))))) rfl (by kernel_rfl) (Qt.nil rfl) ?_
    refine RH.q hh (Calm.bk (Calm.sq (Calm.lp (Calm.bk (Calm.sq Calm.body))))) rfl (by kernel_rfl) (Qt.fld rfl) ?_
    refine RH.q hh (Calm.bk (Calm.sq (Calm.lp (Calm.bk (Calm.sq Calm.body))))) rfl (by kernel_rfl) (Qt.ld rfl (fun _ h => h) (by first  | rfl)) ?_
    refine RH.q hh (Calm.bk (Calm.sq (Calm.lp (Calm.bk (Calm.sq Calm.body))))) rfl (by kernel_rfl) (Qt.mv rfl) ?_
    refine RH.q hh (Calm.bk (Calm.sq (Calm.lp (Calm.bk (Calm.sq Calm.body))))) rfl (by kernel_rfl) (Qt.mv rfl) ?_
    refine RH.e hh rfl (by kernel_rfl) (Ef.call hS (rsNewR nt h2 h3) rfl rfl Try.call70 [] [0, 1, 2, 3] (by decide) rfl rfl) ?_
    rintro v48 w ⟨ps, ⟨⟨bn, rfl⟩, rfl⟩, hS⟩
    refine ⟨(by exact hS.get 3 rfl), ?_⟩
    refine RH.e hh rfl (by kernel_rfl) (Ef.bsl1 hS rfl) ?_
    rintro _ w ⟨b49, rfl, hS⟩
    try simp (disch := omega) only [cells_ptr'] at hS
    refine ⟨(by exact hS.get 4 rfl), ?_⟩
    refine RH.e hh rfl (by kernel_rfl) (Ef.app (k := 2) hS rfl rfl rfl (Src.pt (hS.get 0 rfl) (Nat.le_of_ble_eq_true rfl)) (by omega) (by rfl)) ?_
    intro s50 w hS
    simp only [List.set_cons_succ, List.drop_zero] at hS
    (obtain ⟨sp50, cp50, rfl⟩ := hS.ownForm 2 rfl)
    refine ⟨(by exact hS.get 4 rfl), ?_⟩
    refine RH.q hh (Calm.bk (Calm.sq (Calm.lp (Calm.bk (Calm.sq Calm.body))))) rfl (by kernel_rfl) (Qt.nil rfl) ?_
    refine RH.q hh (Calm.bk (Calm.sq (Calm.lp (Calm.bk (Calm.sq Calm.body))))) rfl (by kernel_rfl) (Qt.fld rfl) ?_
    refine RH.done hh (by kernel_rfl) ?_
    refine RL.e0 (Ef.st hS 4 rfl rfl rfl (by rfl) (by rfl) (by exact Nat.le_of_ble_eq_true rfl)) ?_
    intro _ w hS
    simp (disch := omega) only [List.set_cons_zero, List.set_cons_succ, cells_slice', Nat.zero_add, wr, List.setIfInBounds_toArray] at hS
    refine RL.nil ?_
    refine RE.bkN ?_
    refine RE.sqN ?_
    refine RC.region rfl ?_
    refine RL.q (Qt.mv rfl) ?_
    refine RL.q ((by exact Qt.addI rfl rfl (by dsimp only [inK]; omega))) ?_
    refine RL.q (Qt.as rfl) ?_
    refine RL.nil ?_
    have hS := Sat.objSnoc (f := rpF nt) (vs := vs) (xs := List.replicate k []) (v := .pointer (some ⟨bn, 0, none⟩)) (y := []) (M := [own (.slice sp50 (k + 1) cp50) 85 1 (k + 1) (vs ++ [.pointer (some ⟨bn, 0, none⟩)]), pt b35 (.cells #[.int .i64 np, .int .i64 nt, .int .i64 queue, .slice sp50 (k + 1) cp50] 84 (0, 0)), R]) (by simp [hvk]) (hS.pick [3, 1, 2, 4, 5] (by decide) rfl)
    rw [show List.replicate k ([] : List KItem) ++ [[]] = List.replicate (k + 1) [] from List.replicate_succ'.symm] at hS
    apply RE.lpN ((k + 1, .slice sp50 (k + 1) cp50, vs ++ [.pointer (some ⟨bn, 0, none⟩)]))
    case hI => exact ⟨rfl, ⟨by dsimp only; omega, by simp [hvk]⟩, hS.pick [1, 0, 2, 3] (by decide) rfl⟩
    case hs => (repeat (first | exact Sub.nil | refine Sub.cons rfl ?_))
    case hm =>
      show np + 1 - (k + 1) < np + 1 - k
      omega
  · refine RC.exit ?_
    refine RE.sqX ?_
    refine RE.lpX ?_
    refine RE.bkX ?_
    refine RE.sqN ?_
    refine RC.seq ?_
    refine RC.region rfl ?_
    refine RL.q (Qt.mv rfl) ?_
    refine RL.q (Qt.as rfl) ?_
    refine RL.nil ?_
    refine RE.sqN ?_
    refine RC.ret ?_
    have hge : k = np + 1 := by
      have : ¬ k ≤ np := by simpa using h
      omega
    subst hge
    exact RE.retB rfl ⟨⟨_, rfl⟩, rfl⟩ (rpO_shut (vs := vs) PrOk.empty (by simp [hvk]) ⟨h0, h1⟩ ⟨h2, h3⟩ (by rw [List.length_replicate]; exact hS.pick [2, 0, 1, 3] (by decide) rfl))
end Go.Proofs

/- The reference of layer 11: Fork. -/
namespace Go.Proofs
open Go Go.Gx
variable {oo : World}

set_option maxHeartbeats 4000000 in
theorem rpFork (p : Value) (np nt : Nat) (queue : Int) (L : List (List KItem)) : Ct Try.prog 28 #[p] [rpO p np nt queue L] (fun v ps => (∃ b, v = .pointer (some ⟨b, 0, none⟩)) ∧ ps = [rpO v np nt queue L, rpO p np nt queue L]) := by
  refine Ct.enter Try.func28 rfl (Nat.le_of_ble_eq_true rfl) ?_
  intro oo w R hS
  change RC _ _ _ _ _ _ [(0, _)] _
  obtain ⟨b, sp, cap, vs, rfl, hp, hv, hnp, hnt, hS⟩ := rpO_open hS
  have hlen := hp.len
  refine RC.seq ?_
  refine RC.region rfl ?_
  refine RL.q (Qt.as rfl) ?_
  refine RL.nil ?_
  refine RE.sqN ?_
  refine RC.seq ?_
  refine RC.seq ?_
  refine RC.region rfl ?_
  refine RL.q (Qt.mv rfl) ?_
  refine RL.q (Qt.eqlN rfl rfl) ?_
  refine RL.nil ?_
  refine RE.sqN ?_
  refine RC.condF rfl (rfl) ?_
  refine RC.skip ?_
  refine RE.sqN ?_
  refine RC.seq ?_
  refine RC.drawn 15 [0, 1, 2, 3, 4, 5, 6, 7, 8, 9, 10, 11, 12, 13, 14] (fun w' => w'.heap[b]? = some (.cells #[.int .i64 np, .int .i64 nt, .int .i64 queue, .slice sp L.length cap] 84 (0, 0))) (by kernel_rfl) (by kernel_rfl) ((by exact hS.drew.get 0 rfl)) (fun hh => ?_)
  replace hS := hS.drew
  refine RH.q hh (Calm.sq Calm.body) rfl (by kernel_rfl) (Qt.mv rfl) ?_
  refine RH.q hh (Calm.sq Calm.body) rfl (by kernel_rfl) (Qt.nil rfl) ?_
  refine RH.q hh (Calm.sq Calm.body) rfl (by kernel_rfl) (Qt.fld rfl) ?_
  refine RH.q hh (Calm.sq Calm.body) rfl (by kernel_rfl) (Qt.ld rfl (fun _ h => h) (by first  | rfl)) ?_
  refine RH.q hh (Calm.sq Calm.body) rfl (by kernel_rfl) (Qt.mv rfl) ?_
  refine RH.q hh (Calm.sq Calm.body) rfl (by kernel_rfl) (Qt.nil rfl) ?_
  refine RH.q hh (Calm.sq Calm.body) rfl (by kernel_rfl) (Qt.fld rfl) ?_
  refine RH.q hh (Calm.sq Calm.body) rfl (by kernel_rfl) (Qt.ld rfl (fun _ h => h) (by first  | rfl)) ?_
  refine RH.q hh (Calm.sq Calm.body) rfl (by kernel_rfl) (Qt.mv rfl) ?_
  refine RH.q hh (Calm.sq Calm.body) rfl (by kernel_rfl) (Qt.nil rfl) ?_
  refine RH.q hh (Calm.sq Calm.body) rfl (by kernel_rfl) (Qt.fld rfl) ?_
  refine RH.q hh (Calm.sq Calm.body) rfl (by kernel_rfl) (Qt.ld rfl (fun _ h => h) (by first  | rfl)) ?_
  refine RH.q hh (Calm.sq Calm.body) rfl (by kernel_rfl) (Qt.bldV [.tmp 10, .tmp 14, .tmp 18, .const (Go.Value.slice none 0 0)] rfl rfl (by kernel_rfl)) ?_
  refine RH.e hh rfl (by kernel_rfl) (Ef.box hS rfl) ?_
  rintro _ w ⟨b20, rfl, hS⟩
  try simp (disch := omega) only [cells_agg'] at hS
  refine ⟨(by exact hS.get 1 rfl), ?_⟩
  refine RH.q hh (Calm.sq Calm.body) rfl (by kernel_rfl) (Qt.as rfl) ?_
  refine RH.done hh (by kernel_rfl) ?_
  refine RL.nil ?_
  refine RE.sqN ?_
  refine RC.seq ?_
  refine RC.seq ?_
  refine RC.region rfl ?_
  refine RL.q (Qt.as rfl) ?_
  refine RL.nil ?_
  refine RE.sqN ?_
  refine RC.block ?_
  have hS := (Sat.objNil (f := rpF nt) hS).nilOwn (T := 85) (sz := 1)
  refine RC.loop (γ := Nat × Value × List Value) (fun g E w' => E = [(4, .int .i64 g.1), (3, .pointer (some ⟨b20, 0, none⟩)), (0, .pointer (some ⟨b, 0, none⟩))] ∧ (g.1 ≤ L.length ∧ g.2.2.length = g.1) ∧ Sat oo w' [own g.2.1 85 1 g.1 g.2.2, Objs (rpF nt) g.2.2 (L.take g.1), pt b20 (.cells #[.int .i64 np, .int .i64 nt, .int .i64 queue, g.2.1] 84 (0, 0)), pt b (.cells #[.int .i64 np, .int .i64 nt, .int .i64 queue, .slice sp L.length cap] 84 (0, 0)), own (.slice sp L.length cap) 85 1 L.length vs, Objs (rpF nt) vs L, R]) (fun g => L.length - g.1) (0, .slice none 0 0, []) _ (by (repeat (first | exact Sub.nil | refine Sub.cons rfl ?_))) ⟨rfl, ⟨by dsimp only; omega, rfl⟩, hS⟩ ?_
  clear hS
  rintro ⟨k, v, us⟩ E w ⟨rfl, ⟨hk, huk⟩, hS⟩
  dsimp only at hk huk hS
  refine RC.seq ?_
  refine RC.seq ?_
  refine RC.region rfl ?_
  refine RL.q (Qt.mv rfl) ?_
  refine RL.q (Qt.mv rfl) ?_
  refine RL.q (Qt.nil rfl) ?_
  refine RL.q (Qt.fld rfl) ?_
  refine RL.q (Qt.ld rfl (by exact hS.at 3 rfl) (by first  | rfl)) ?_
  refine RL.q (Qt.lenS rfl) ?_
  refine RL.q (Qt.lss rfl rfl) ?_
  refine RL.nil ?_
  refine RE.sqN ?_
  refine RC.cond rfl (fun h => ?_) (fun h => ?_)
  · skip
    have hlt : k < L.length := by simpa using h
    have hltv : k < vs.length := by omega
    obtain ⟨spd, cpd, rfl⟩ := hS.ownForm 0 rfl
    obtain ⟨bs, cap', c, hv', hc1, hc2, hc3, hc4, hS⟩ := hS.ownPos 4 rfl (by omega)
    cases hv'
    have hS := Sat.objOut (f := rpF nt) hv hlt (hS.pick [5, 0, 1, 2, 3, 4, 6] (by decide) rfl)
    refine RC.skip ?_
    refine RE.sqN ?_
    refine RC.seq ?_
    refine RC.block ?_
    refine RC.drawn 17 [0, 1, 2, 3, 4, 5, 6, 7, 8, 9, 10, 11, 12, 13, 14, 15, 16] (fun w' => w'.heap[b20]? = some (.cells #[.int .i64 np, .int .i64 nt, .int .i64 queue, .slice spd k cpd] 84 (0, 0)) ∧ w'.heap[b]? = some (.cells #[.int .i64 np, .int .i64 nt, .int .i64 queue, .slice (some ⟨bs, 0, none⟩) L.length cap] 84 (0, 0)) ∧ w'.heap[bs]? = some (.cells c 85 (0, 0))) (by kernel_rfl) (by kernel_rfl) ⟨hS.drew.get 4 rfl, hS.drew.get 5 rfl, hS.drew.get 6 rfl⟩ (fun hh => ?_)
    replace hS := hS.drew
    refine RH.q hh (Calm.bk (Calm.sq (Calm.lp (Calm.bk (Calm.sq Calm.body))))) rfl (by kernel_rfl) (Qt.mv rfl) ?_
    refine RH.q hh (Calm.bk (Calm.sq (Calm.lp (Calm.bk (Calm.sq Calm.body))))) rfl (by kernel_rfl) (Qt.mv rfl) ?_
    refine RH.q hh (Calm.bk (Calm.sq (Calm.lp (Calm.bk (Calm.sq Calm.body))))) rfl (by kernel_rfl) (Qt.nil rfl) ?_
    refine RH.q hh (Calm.bk (Calm.sq (Calm.lp (Calm.bk (Calm.sq Calm.body))))) rfl (by kernel_rfl) (Qt.fld rfl) ?_
    refine RH.q hh (Calm.bk (Calm.sq (Calm.lp (Calm.bk (Calm.sq Calm.body))))) rfl (by kernel_rfl) (Qt.ld rfl (by exact fun _ h => h.1) (by rfl)) ?_
    refine RH.q hh (Calm.bk (Calm.sq (Calm.lp (Calm.bk (Calm.sq Calm.body))))) rfl (by kernel_rfl) (Qt.mv rfl) ?_
    refine RH.q hh (Calm.bk (Calm.sq (Calm.lp (Calm.bk (Calm.sq Calm.body))))) rfl (by kernel_rfl) (Qt.nil rfl) ?_
    refine RH.q hh (Calm.bk (Calm.sq (Calm.lp (Calm.bk (Calm.sq Calm.body))))) rfl (by kernel_rfl) (Qt.fld rfl) ?_
    refine RH.q hh (Calm.bk (Calm.sq (Calm.lp (Calm.bk (Calm.sq Calm.body))))) rfl (by kernel_rfl) (Qt.ld rfl (by exact fun _ h => h.2.1) (by rfl)) ?_
    refine RH.q hh (Calm.bk (Calm.sq (Calm.lp (Calm.bk (Calm.sq Calm.body))))) rfl (by kernel_rfl) (Qt.mv rfl) ?_
    refine RH.q hh (Calm.bk (Calm.sq (Calm.lp (Calm.bk (Calm.sq Calm.body))))) rfl (by kernel_rfl) (Qt.ixS rfl rfl (by omega) (by omega)) ?_
    refine RH.q hh (Calm.bk (Calm.sq (Calm.lp (Calm.bk (Calm.sq Calm.body))))) rfl (by kernel_rfl) (Qt.ld rfl (by exact fun _ h => h.2.2) (by exact ptr_cell hc4 hltv (by omega))) ?_
    refine RH.e hh rfl (by kernel_rfl) (Ef.call hS (rsFork vs[k] nt nt L[k]) rfl rfl Try.call48 [0] [1, 2, 3, 4, 5, 6, 7] (by decide) rfl rfl) ?_
    rintro v42 w ⟨ps, ⟨⟨bn, rfl⟩, rfl⟩, hS⟩
    refine ⟨⟨by exact hS.get 5 rfl, by exact hS.get 6 rfl, by exact hS.get 7 rfl⟩, ?_⟩
    refine RH.e hh rfl (by kernel_rfl) (Ef.bsl1 hS rfl) ?_
    rintro _ w ⟨b43, rfl, hS⟩
    try simp (disch := omega) only [cells_ptr'] at hS
    refine ⟨⟨by exact hS.get 6 rfl, by exact hS.get 7 rfl, by exact hS.get 8 rfl⟩, ?_⟩
    refine RH.e hh rfl (by kernel_rfl) (Ef.app (k := 4) hS rfl rfl rfl (Src.pt (hS.get 0 rfl) (Nat.le_of_ble_eq_true rfl)) (by omega) (by rfl)) ?_
    intro s44 w hS
    simp only [List.set_cons_succ, List.drop_zero] at hS
    (obtain ⟨sp44, cp44, rfl⟩ := hS.ownForm 4 rfl)
    refine ⟨⟨by exact hS.get 6 rfl, by exact hS.get 7 rfl, by exact hS.get 8 rfl⟩, ?_⟩
    refine RH.q hh (Calm.bk (Calm.sq (Calm.lp (Calm.bk (Calm.sq Calm.body))))) rfl (by kernel_rfl) (Qt.nil rfl) ?_
    refine RH.q hh (Calm.bk (Calm.sq (Calm.lp (Calm.bk (Calm.sq Calm.body))))) rfl (by kernel_rfl) (Qt.fld rfl) ?_
    refine RH.done hh (by kernel_rfl) ?_
    refine RL.e0 (Ef.st hS 6 rfl rfl rfl (by rfl) (by rfl) (by exact Nat.le_of_ble_eq_true rfl)) ?_
    intro _ w hS
    simp (disch := omega) only [List.set_cons_zero, List.set_cons_succ, cells_slice', Nat.zero_add, wr, List.setIfInBounds_toArray] at hS
    refine RL.nil ?_
    refine RE.bkN ?_
    refine RE.sqN ?_
    refine RC.region rfl ?_
    refine RL.q (Qt.mv rfl) ?_
    refine RL.q ((by exact Qt.addI rfl rfl (by dsimp only [inK]; omega))) ?_
    refine RL.q (Qt.as rfl) ?_
    refine RL.nil ?_
    have h1 := Sat.objSnoc (f := rpF nt) (vs := us) (xs := L.take k) (v := .pointer (some ⟨bn, 0, none⟩)) (y := L[k]) (by simp; omega) (hS.pick [5, 2, 1, 3, 4, 6, 7, 8, 9] (by decide) rfl)
    rw [← List.take_succ_eq_append_getElem hlt] at h1
    have h2 := Sat.objIn (f := rpF nt) hv hlt (y := L[k]) (h1.pick [1, 2, 0, 3, 4, 5, 6, 7] (by decide) rfl)
    rw [set_same hlt] at h2
    have h3 := (h2.pick [2, 1, 3, 4, 5, 0, 6] (by decide) rfl).ownMk (cap := cap) (n := L.length) (sz := 1) (cs := vs) 4 rfl hc1 hc2 hc3 hc4
    apply RE.lpN ((k + 1, .slice sp44 (k + 1) cp44, us ++ [.pointer (some ⟨bn, 0, none⟩)]))
    case hI => exact ⟨rfl, ⟨hlt, by simp [huk]⟩, h3⟩
    case hs => (repeat (first | exact Sub.nil | refine Sub.cons rfl ?_))
    case hm =>
      show L.length - (k + 1) < L.length - k
      omega
  · refine RC.exit ?_
    refine RE.sqX ?_
    refine RE.lpX ?_
    refine RE.bkX ?_
    refine RE.sqN ?_
    refine RC.seq ?_
    refine RC.region rfl ?_
    refine RL.q (Qt.mv rfl) ?_
    refine RL.q (Qt.as rfl) ?_
    refine RL.nil ?_
    refine RE.sqN ?_
    refine RC.ret ?_
    have hge : k = L.length := by
      have : ¬ k < L.length := by simpa using h
      omega
    subst hge
    rw [List.take_length] at hS
    have h1 := rpO_shut (vs := us) hp huk hnp hnt (hS.pick [2, 0, 1, 3, 4, 5, 6] (by decide) rfl)
    have h2 := rpO_shut (vs := vs) hp hv hnp hnt (h1.pick [1, 2, 3, 0, 4] (by decide) rfl)
    exact RE.retB rfl ⟨⟨_, rfl⟩, rfl⟩ h2.swap
end Go.Proofs

/- The heap of deadlines as numbers and trees: what its links stand for, and that putting together, cutting and gathering keep it. No program stands here. -/
namespace Go.Proofs
open Go Go.Gx

structure PItem where
  id : Int
  dl : Int
  sq : Int
def PItem.lt (a b : PItem) : Prop := a.dl < b.dl ∨ (a.dl = b.dl ∧ (a.sq < b.sq ∨ (a.sq = b.sq ∧ a.id < b.id)))
instance (a b : PItem) : Decidable (PItem.lt a b) := inferInstanceAs (Decidable (a.dl < b.dl ∨ (a.dl = b.dl ∧ (a.sq < b.sq ∨ (a.sq = b.sq ∧ a.id < b.id)))))
theorem PItem.lt.trans {a b c : PItem} (h : PItem.lt a b) (g : PItem.lt b c) : PItem.lt a c := by
  unfold PItem.lt at *; omega
theorem PItem.lt_irrefl {a : PItem} : ¬ PItem.lt a a := by
  unfold PItem.lt; omega
theorem PItem.lt.asymm {a b : PItem} (h : PItem.lt a b) : ¬ PItem.lt b a := fun g => PItem.lt_irrefl (h.trans g)
theorem PItem.lt_total {a b : PItem} (h : a.id ≠ b.id) : PItem.lt a b ∨ PItem.lt b a := by
  unfold PItem.lt; omega

structure PH where
  dl : Int → Int
  sq : Int → Int
  child : Int → Int
  next : Int → Int
  prev : Int → Int
  there : Int → Bool
def PH.it (f : PH) (i : Int) : PItem := ⟨i, f.dl i, f.sq i⟩

inductive BT where
  | nil : BT
  | node (id : Int) (c n : BT) : BT
def BT.ids : BT → List Int
  | .nil => []
  | .node i c n => i :: (c.ids ++ n.ids)
def BT.root : BT → Int
  | .nil => -1
  | .node i _ _ => i
def BT.single : BT → Prop
  | .node _ _ (.node _ _ _) => False
  | _ => True
def Rep (f : PH) : Int → BT → Prop
  | _, .nil => True
  | p, .node i c n => f.prev i = p ∧ f.child i = c.root ∧ f.next i = n.root ∧ Rep f i c ∧ Rep f i n
def Ord (f : PH) : BT → Prop
  | .nil => True
  | .node i c n => (∀ x ∈ c.ids, PItem.lt (f.it i) (f.it x)) ∧ Ord f c ∧ Ord f n

/-- Links as they were where S says no; what is ranked, and what is there, as it was. -/
structure Mv (f f' : PH) (S : List Int) : Prop where
  dl : f'.dl = f.dl
  sq : f'.sq = f.sq
  there : f'.there = f.there
  child : ∀ i, i ∉ S → f'.child i = f.child i
  next : ∀ i, i ∉ S → f'.next i = f.next i
  prev : ∀ i, i ∉ S → f'.prev i = f.prev i
theorem Mv.refl (f : PH) (S : List Int) : Mv f f S := ⟨rfl, rfl, rfl, fun _ _ => rfl, fun _ _ => rfl, fun _ _ => rfl⟩
theorem Mv.trans {f g h : PH} {S T : List Int} (a : Mv f g S) (b : Mv g h T) : Mv f h (S ++ T) :=
  ⟨b.dl.trans a.dl, b.sq.trans a.sq, b.there.trans a.there, fun i hi => by simp only [List.mem_append, not_or] at hi; exact (b.child i hi.2).trans (a.child i hi.1),
   fun i hi => by simp only [List.mem_append, not_or] at hi; exact (b.next i hi.2).trans (a.next i hi.1), fun i hi => by simp only [List.mem_append, not_or] at hi; exact (b.prev i hi.2).trans (a.prev i hi.1)⟩
theorem Mv.mono {f g : PH} {S T : List Int} (a : Mv f g S) (h : ∀ i ∈ S, i ∈ T) : Mv f g T :=
  ⟨a.dl, a.sq, a.there, fun i hi => a.child i fun e => hi (h i e), fun i hi => a.next i fun e => hi (h i e), fun i hi => a.prev i fun e => hi (h i e)⟩
theorem Mv.it {f g : PH} {S : List Int} (a : Mv f g S) : g.it = f.it := by
  funext i; simp [PH.it, a.dl, a.sq]

theorem Rep.congr {f g : PH} : ∀ {t : BT} {p : Int}, (∀ i ∈ t.ids, g.child i = f.child i ∧ g.next i = f.next i ∧ g.prev i = f.prev i) → Rep f p t → Rep g p t
  | .nil, _, _, _ => trivial
  | .node i c n, p, h, ⟨h1, h2, h3, h4, h5⟩ => by
    obtain ⟨a, b, d⟩ := h i (by simp [BT.ids])
    exact ⟨d.trans h1, a.trans h2, b.trans h3, Rep.congr (fun j hj => h j (by simp [BT.ids, hj])) h4, Rep.congr (fun j hj => h j (by simp [BT.ids, hj])) h5⟩
theorem Rep.mv {f g : PH} {S : List Int} {t : BT} {p : Int} (h : Rep f p t) (a : Mv f g S) (hd : ∀ i ∈ t.ids, i ∉ S) : Rep g p t :=
  h.congr fun i hi => ⟨a.child i (hd i hi), a.next i (hd i hi), a.prev i (hd i hi)⟩
theorem Ord.it {f g : PH} (h : g.it = f.it) : ∀ {t : BT}, Ord f t → Ord g t
  | .nil, _ => trivial
  | .node i c n, ⟨h1, h2, h3⟩ => ⟨fun x hx => by rw [h]; exact h1 x hx, Ord.it h h2, Ord.it h h3⟩
theorem BT.root_mem : ∀ (t : BT), t.root = -1 ∧ t = .nil ∨ t.root ∈ t.ids
  | .nil => .inl ⟨rfl, rfl⟩
  | .node i c n => .inr (by simp [BT.ids, BT.root])

/-! ### putting two together -/
def aheadF (f : PH) (a b : Int) : Bool := decide (PItem.lt (f.it a) (f.it b))
def linkF (f : PH) (a b : Int) : PH :=
  { f with
    next := upd f.next b (f.child a)
    prev := if f.child a = -1 then upd f.prev b a else upd (upd f.prev b a) (f.child a) b
    child := upd f.child a b }
def meldF (f : PH) (a b : Int) : PH × Int :=
  if a = -1 ∨ b = -1 then (f, max a b) else if aheadF f b a then (linkF f b a, b) else (linkF f a b, a)
def meldT (f : PH) : BT → BT → BT
  | .nil, b => b
  | a, .nil => a
  | .node a ca _, .node b cb _ => if aheadF f b a then .node b (.node a ca cb) .nil else .node a (.node b cb ca) .nil

theorem link_rep {f : PH} {a b : Int} {ca cb : BT} {pb : Int} (ha : Rep f (-1) (.node a ca .nil)) (hb : Rep f pb (.node b cb .nil)) (hnd : ((BT.node a ca .nil).ids ++ (BT.node b cb .nil).ids).Nodup) (hn : ∀ i ∈ ca.ids, 0 ≤ i) :
    Rep (linkF f a b) (-1) (.node a (.node b cb ca) .nil) ∧ Mv f (linkF f a b) ((BT.node a ca .nil).ids ++ (BT.node b cb .nil).ids) := by
  simp only [BT.ids, List.append_nil] at hnd ⊢
  obtain ⟨a1, a2, a3, a4, _⟩ := ha
  obtain ⟨b1, b2, b3, b4, _⟩ := hb
  rw [List.nodup_append] at hnd
  obtain ⟨n1, n2, n3⟩ := hnd
  rw [List.nodup_cons] at n1 n2
  have hab : a ≠ b := n3 a (by simp) b (by simp)
  have hb_ca : b ∉ ca.ids := fun h => n3 b (by simp [h]) b (by simp) rfl
  have ha_cb : a ∉ cb.ids := fun h => n3 a (by simp) a (by simp [h]) rfl
  have hdis : ∀ x ∈ ca.ids, x ∉ cb.ids := fun x hx h => n3 x (by simp [hx]) x (by simp [h]) rfl
  have hroot : ca.root = -1 ∧ ca = .nil ∨ ca.root ∈ ca.ids := ca.root_mem
  have hch : f.child a = ca.root := a2
  have eprev : ∀ j, (linkF f a b).prev j = if f.child a ≠ -1 ∧ j = f.child a then b else if j = b then a else f.prev j := fun j => by
    by_cases h : f.child a = -1
    · simp [linkF, h, upd]
    · simp [linkF, h, upd]
  have enext : ∀ j, (linkF f a b).next j = if j = b then f.child a else f.next j := fun j => rfl
  have echild : ∀ j, (linkF f a b).child j = if j = a then b else f.child j := fun j => rfl
  refine ⟨⟨?_, ?_, ?_, ⟨?_, ?_, ?_, ?_, ?_⟩, trivial⟩, rfl, rfl, rfl, ?_, ?_, ?_⟩
  · rw [eprev, if_neg, if_neg hab]; exact a1
    rintro ⟨h, e⟩
    rcases hroot with ⟨h1, _⟩ | h1
    · exact h (hch.trans h1)
    · rw [← hch, ← e] at h1; exact n1.1 h1
  · rw [echild, if_pos rfl]; rfl
  · rw [enext, if_neg hab]; exact a3
  · rw [eprev, if_neg, if_pos rfl]
    rintro ⟨h, e⟩
    rcases hroot with ⟨h1, _⟩ | h1
    · exact h (hch.trans h1)
    · rw [← hch, ← e] at h1; exact hb_ca h1
  · rw [echild, if_neg (Ne.symm hab)]; exact b2
  · rw [enext, if_pos rfl]; exact hch
  · refine b4.congr fun i hi => ⟨?_, ?_, ?_⟩
    · rw [echild, if_neg]; rintro rfl; exact ha_cb hi
    · rw [enext, if_neg]; rintro rfl; exact n2.1 hi
    · rw [eprev, if_neg, if_neg]
      · rintro rfl; exact n2.1 hi
      · rintro ⟨h, e⟩
        rcases hroot with ⟨h1, _⟩ | h1
        · exact h (hch.trans h1)
        · rw [← hch, ← e] at h1; exact hdis _ h1 hi
  · cases ca with
    | nil => trivial
    | node c cc cn =>
      obtain ⟨c1, c2, c3, c4, c5⟩ := a4
      have hcid : f.child a = c := hch
      have hc0 : f.child a ≠ -1 := by
        rw [hcid]
        have := hn c (by simp [BT.ids])
        omega
      have n1' := n1.2
      simp only [BT.ids, List.nodup_cons] at n1'
      have hoth : ∀ i ∈ cc.ids ++ cn.ids, (linkF f a b).child i = f.child i ∧ (linkF f a b).next i = f.next i ∧ (linkF f a b).prev i = f.prev i := fun i hi => by
        have hia : i ≠ a := by rintro rfl; exact n1.1 (by simp only [BT.ids, List.mem_cons]; exact .inr hi)
        have hib : i ≠ b := by rintro rfl; exact hb_ca (by simp only [BT.ids, List.mem_cons]; exact .inr hi)
        have hic : i ≠ c := by rintro rfl; exact n1'.1 hi
        refine ⟨?_, ?_, ?_⟩
        · rw [echild, if_neg hia]
        · rw [enext, if_neg hib]
        · rw [eprev, if_neg (by rw [hcid]; exact fun h => hic h.2), if_neg hib]
      have hca : c ≠ a := by rintro rfl; exact n1.1 (by simp [BT.ids])
      have hcb : c ≠ b := by rintro rfl; exact hb_ca (by simp [BT.ids])
      refine ⟨?_, ?_, ?_, c4.congr fun i hi => hoth i (by simp [hi]), c5.congr fun i hi => hoth i (by simp [hi])⟩
      · rw [eprev, if_pos ⟨hc0, hcid.symm⟩]
      · rw [echild, if_neg hca]; exact c2
      · rw [enext, if_neg hcb]; exact c3
  · intro i hi
    rw [echild, if_neg]; rintro rfl; simp at hi
  · intro i hi
    rw [enext, if_neg]; rintro rfl; simp at hi
  · intro i hi
    rw [eprev, if_neg, if_neg]
    · rintro rfl; simp at hi
    · rintro ⟨h, e⟩
      rcases hroot with ⟨h1, _⟩ | h1
      · exact h (hch.trans h1)
      · rw [← hch, ← e] at h1; simp [h1] at hi

/-- A tree that hangs on nothing and has no sibling. -/
structure Tr (f : PH) (t : BT) : Prop where
  rep : Rep f (-1) t
  one : t.single
  ord : Ord f t
  nn : ∀ i ∈ t.ids, 0 ≤ i
theorem Tr.nil {f : PH} : Tr f .nil := ⟨trivial, trivial, trivial, fun _ h => by simp [BT.ids] at h⟩
theorem Tr.mv {f g : PH} {S : List Int} {t : BT} (h : Tr f t) (a : Mv f g S) (hd : ∀ i ∈ t.ids, i ∉ S) : Tr g t := ⟨h.rep.mv a hd, h.one, h.ord.it a.it, h.nn⟩

theorem meld_tr {f : PH} {a b : BT} (ha : Tr f a) (hb : Tr f b) (hnd : (a.ids ++ b.ids).Nodup) :
    Tr (meldF f a.root b.root).1 (meldT f a b) ∧ (meldF f a.root b.root).2 = (meldT f a b).root ∧ (meldT f a b).ids.Perm (a.ids ++ b.ids) ∧ Mv f (meldF f a.root b.root).1 (a.ids ++ b.ids) := by
  cases a with
  | nil =>
    have h2 : (-1 : Int) ≤ b.root := by
      rcases b.root_mem with ⟨h, _⟩ | h
      · omega
      · have := hb.nn _ h; omega
    have e : meldF f BT.nil.root b.root = (f, b.root) := by
      show meldF f (-1) b.root = _
      rw [meldF, if_pos (.inl rfl), Int.max_eq_right h2]
    rw [e]
    exact ⟨hb, rfl, by simp [meldT, BT.ids], Mv.refl _ _⟩
  | node x cx nx =>
    have hx0 := ha.nn x (by simp [BT.ids])
    have e1 : nx = .nil := by
      have := ha.one
      cases nx with
      | nil => rfl
      | node _ _ _ => exact this.elim
    subst e1
    cases b with
    | nil =>
      have e : meldF f (BT.node x cx .nil).root BT.nil.root = (f, x) := by
        show meldF f x (-1) = _
        rw [meldF, if_pos (.inr rfl), Int.max_eq_left (by omega)]
      rw [e]
      exact ⟨ha, rfl, by simp [meldT, BT.ids], Mv.refl _ _⟩
    | node y cy ny =>
      have hy0 := hb.nn y (by simp [BT.ids])
      have e2 : ny = .nil := by
        have := hb.one
        cases ny with
        | nil => rfl
        | node _ _ _ => exact this.elim
      subst e2
      have hxy : x ≠ y := by
        rw [List.nodup_append] at hnd
        exact hnd.2.2 x (by simp [BT.ids]) y (by simp [BT.ids])
      have hne : ¬ (x = -1 ∨ y = -1) := by omega
      by_cases h : aheadF f y x = true
      · have e1 : meldF f (BT.node x cx .nil).root (BT.node y cy .nil).root = (linkF f y x, y) := by
          show meldF f x y = _
          rw [meldF, if_neg hne, if_pos h]
        have e2 : meldT f (BT.node x cx .nil) (BT.node y cy .nil) = .node y (.node x cx cy) .nil := if_pos h
        rw [e1, e2]
        have hlt : PItem.lt (f.it y) (f.it x) := of_decide_eq_true h
        have hnd' : ((BT.node y cy .nil).ids ++ (BT.node x cx .nil).ids).Nodup := (List.perm_append_comm.nodup_iff).1 hnd
        obtain ⟨r, m⟩ := link_rep hb.rep ha.rep hnd' (fun i hi => hb.nn i (by simp [BT.ids, hi]))
        have hp : (BT.node y (.node x cx cy) .nil).ids.Perm ((BT.node x cx .nil).ids ++ (BT.node y cy .nil).ids) := by
          simp only [BT.ids, List.append_nil, List.cons_append]
          rw [List.perm_iff_count]; intro z; simp only [List.count_cons, List.count_append]; omega
        refine ⟨⟨r, trivial, Ord.it (f := f) m.it ⟨?_, ⟨ha.ord.1, ha.ord.2.1, hb.ord.2.1⟩, trivial⟩, fun i hi => ?_⟩, rfl, hp, m.mono fun i hi => ?_⟩
        · intro z hz
          simp only [BT.ids, List.mem_cons, List.mem_append] at hz
          rcases hz with rfl | hz | hz
          · exact hlt
          · exact hlt.trans (ha.ord.1 z hz)
          · exact hb.ord.1 z hz
        · have := hp.mem_iff.1 hi
          rcases List.mem_append.1 this with h | h
          · exact ha.nn i h
          · exact hb.nn i h
        · exact (List.perm_append_comm.mem_iff).1 hi
      · have e1 : meldF f (BT.node x cx .nil).root (BT.node y cy .nil).root = (linkF f x y, x) := by
          show meldF f x y = _
          rw [meldF, if_neg hne, if_neg h]
        have e2 : meldT f (BT.node x cx .nil) (BT.node y cy .nil) = .node x (.node y cy cx) .nil := if_neg h
        rw [e1, e2]
        have hlt : PItem.lt (f.it x) (f.it y) := by
          have h1 : ¬ PItem.lt (f.it y) (f.it x) := fun g => h (decide_eq_true g)
          exact (PItem.lt_total (a := f.it x) (b := f.it y) hxy).resolve_right h1
        obtain ⟨r, m⟩ := link_rep ha.rep hb.rep hnd (fun i hi => ha.nn i (by simp [BT.ids, hi]))
        have hp : (BT.node x (.node y cy cx) .nil).ids.Perm ((BT.node x cx .nil).ids ++ (BT.node y cy .nil).ids) := by
          simp only [BT.ids, List.append_nil, List.cons_append]
          rw [List.perm_iff_count]; intro z; simp only [List.count_cons, List.count_append]; omega
        refine ⟨⟨r, trivial, Ord.it (f := f) m.it ⟨?_, ⟨hb.ord.1, hb.ord.2.1, ha.ord.2.1⟩, trivial⟩, fun i hi => ?_⟩, rfl, hp, m⟩
        · intro z hz
          simp only [BT.ids, List.mem_cons, List.mem_append] at hz
          rcases hz with rfl | hz | hz
          · exact hlt
          · exact hlt.trans (hb.ord.1 z hz)
          · exact ha.ord.1 z hz
        · have := hp.mem_iff.1 hi
          rcases List.mem_append.1 this with h | h
          · exact ha.nn i h
          · exact hb.nn i h

/-! ### links stay in range -/
def Bd (n : Nat) (f : PH) : Prop := ∀ i : Int, 0 ≤ i → i < n → (-1 ≤ f.child i ∧ f.child i < n) ∧ (-1 ≤ f.next i ∧ f.next i < n) ∧ (-1 ≤ f.prev i ∧ f.prev i < n)
theorem upd_in {n : Nat} {g : Int → Int} {a x : Int} (hx : -1 ≤ x ∧ x < n) {i : Int} (hg : -1 ≤ g i ∧ g i < n) : -1 ≤ upd g a x i ∧ upd g a x i < n := by
  unfold upd; split
  · exact hx
  · exact hg
theorem Bd.link {n : Nat} {f : PH} (h : Bd n f) {a b : Int} (ha : 0 ≤ a ∧ a < n) (hb : 0 ≤ b ∧ b < n) : Bd n (linkF f a b) := fun i h0 h1 => by
  obtain ⟨g1, g2, g3⟩ := h i h0 h1
  have hc := (h a ha.1 ha.2).1
  refine ⟨upd_in (by omega) g1, upd_in hc g2, ?_⟩
  show -1 ≤ (if f.child a = -1 then upd f.prev b a else upd (upd f.prev b a) (f.child a) b) i ∧ (if f.child a = -1 then upd f.prev b a else upd (upd f.prev b a) (f.child a) b) i < n
  have hq := upd_in (a := b) (x := a) (by omega) g3
  split
  · exact hq
  · exact upd_in (by omega) hq
theorem Bd.meld {n : Nat} {f : PH} (h : Bd n f) {a b : Int} (ha : -1 ≤ a ∧ a < n) (hb : -1 ≤ b ∧ b < n) : Bd n (meldF f a b).1 ∧ -1 ≤ (meldF f a b).2 ∧ (meldF f a b).2 < n := by
  unfold meldF
  split
  · exact ⟨h, by omega, by omega⟩
  · split
    · exact ⟨h.link (by omega) (by omega), by dsimp only; omega, by dsimp only; omega⟩
    · exact ⟨h.link (by omega) (by omega), by dsimp only; omega, by dsimp only; omega⟩

/-! ### letting loose -/
def looseF (f : PH) (a : Int) : PH := { f with next := upd f.next a (-1), prev := upd f.prev a (-1) }
theorem Bd.loose {n : Nat} {f : PH} (h : Bd n f) (a : Int) : Bd n (looseF f a) := fun i h0 h1 => by
  obtain ⟨g1, g2, g3⟩ := h i h0 h1
  exact ⟨g1, upd_in (by omega) g2, upd_in (by omega) g3⟩
theorem loose_mv (f : PH) (a : Int) : Mv f (looseF f a) [a] :=
  ⟨rfl, rfl, rfl, fun _ _ => rfl, fun i hi => upd_ne _ _ (by simpa using hi), fun i hi => upd_ne _ _ (by simpa using hi)⟩
theorem loose_rep {f : PH} {p a : Int} {c n : BT} (h : Rep f p (.node a c n)) (ha : a ∉ c.ids) : Rep (looseF f a) (-1) (.node a c .nil) := by
  obtain ⟨h1, h2, h3, h4, h5⟩ := h
  exact ⟨upd_same _ _ _, h2, upd_same _ _ _, h4.mv (loose_mv f a) (fun i hi e => by simp at e; subst e; exact ha hi), trivial⟩

/-! ### gathering -/
/-- One step: the first one, or the first two, of siblings. -/
theorem pair_one {f : PH} {p a : Int} {c : BT} (h : Rep f p (.node a c .nil)) (ho : Ord f (.node a c .nil)) (hnd : (BT.node a c .nil).ids.Nodup) (hn : ∀ i ∈ (BT.node a c .nil).ids, 0 ≤ i) :
    Tr (looseF f a) (.node a c .nil) ∧ Mv f (looseF f a) (BT.node a c .nil).ids := by
  have ha : a ∉ c.ids := by
    simp only [BT.ids, List.append_nil, List.nodup_cons] at hnd; exact hnd.1
  refine ⟨⟨loose_rep h ha, trivial, ho.it (loose_mv f a).it, hn⟩, (loose_mv f a).mono fun i hi => ?_⟩
  simp at hi; subst hi; simp [BT.ids]

theorem pair_two {f : PH} {p a b : Int} {c d r : BT} (h : Rep f p (.node a c (.node b d r))) (ho : Ord f (.node a c (.node b d r))) (hnd : (BT.node a c (.node b d r)).ids.Nodup) (hn : ∀ i ∈ (BT.node a c (.node b d r)).ids, 0 ≤ i) :
    let g := looseF (looseF f b) a
    Tr g (.node a c .nil) ∧ Tr g (.node b d .nil) ∧ Rep g b r ∧ Mv f g [b, a] ∧ f.next a = b ∧ f.next b = r.root := by
  intro g
  obtain ⟨h1, h2, h3, h4, h5⟩ := h
  obtain ⟨k1, k2, k3, k4, k5⟩ := h5
  have hm : Mv f g [b, a] := (loose_mv f b).trans (loose_mv _ a)
  simp only [BT.ids, List.nodup_cons, List.nodup_append, List.mem_append, List.mem_cons, not_or] at hnd
  obtain ⟨⟨x1, x2, x3, x4⟩, y1, ⟨⟨y2, y3⟩, z1, z2, z3⟩, y4⟩ := hnd
  have hbc : b ∉ c.ids := fun e => y4 b e b (.inl rfl) rfl
  have e1 : Rep (looseF f b) (-1) (.node b d .nil) := loose_rep (p := a) ⟨k1, k2, k3, k4, k5⟩ y2
  refine ⟨⟨⟨upd_same _ _ _, h2, upd_same _ _ _, h4.mv hm fun i hi e => ?_, trivial⟩, trivial, ⟨(fun x hx => by rw [hm.it]; exact ho.1 x hx), ho.2.1.it hm.it, trivial⟩, fun i hi => hn i ?_⟩,
    ⟨e1.mv (loose_mv _ a) fun i hi e => ?_, trivial, ⟨(fun x hx => by rw [hm.it]; exact ho.2.2.1 x hx), ho.2.2.2.1.it hm.it, trivial⟩, fun i hi => hn i ?_⟩, k5.mv hm fun i hi e => ?_, hm, h3, k3⟩
  · simp only [List.mem_cons, List.not_mem_nil, or_false] at e
    rcases e with rfl | rfl
    · exact hbc hi
    · exact x1 hi
  · simp only [BT.ids, List.append_nil, List.mem_cons, List.mem_append] at hi ⊢
    rcases hi with h | h
    · exact .inl h
    · exact .inr (.inl h)
  · simp only [List.mem_cons, List.not_mem_nil, or_false] at e
    subst e
    simp only [BT.ids, List.append_nil, List.mem_cons] at hi
    rcases hi with h | h
    · exact x2 h
    · exact x3 h
  · simp only [BT.ids, List.append_nil, List.mem_cons, List.mem_append] at hi ⊢
    rcases hi with h | h
    · exact .inr (.inr (.inl h))
    · exact .inr (.inr (.inr (.inl h)))
  · simp only [List.mem_cons, List.not_mem_nil, or_false] at e
    rcases e with rfl | rfl
    · exact y3 hi
    · exact x4 hi

/-! ### cutting -/
def cutF (f : PH) (a : Int) : PH :=
  let f1 : PH := if f.prev a = -1 then f else if f.child (f.prev a) = a then { f with child := upd f.child (f.prev a) (f.next a) } else { f with next := upd f.next (f.prev a) (f.next a) }
  let f2 : PH := if f.next a = -1 then f1 else { f1 with prev := upd f1.prev (f.next a) (f.prev a) }
  looseF f2 a
theorem Bd.cut {n : Nat} {f : PH} (h : Bd n f) {a : Int} (ha : 0 ≤ a ∧ a < n) : Bd n (cutF f a) := by
  obtain ⟨_, hx, hp⟩ := h a ha.1 ha.2
  have h1 : Bd n (if f.prev a = -1 then f else if f.child (f.prev a) = a then { f with child := upd f.child (f.prev a) (f.next a) } else { f with next := upd f.next (f.prev a) (f.next a) }) := by
    split
    · exact h
    · split
      · exact fun i h0 h1 => by obtain ⟨g1, g2, g3⟩ := h i h0 h1; exact ⟨upd_in hx g1, g2, g3⟩
      · exact fun i h0 h1 => by obtain ⟨g1, g2, g3⟩ := h i h0 h1; exact ⟨g1, upd_in hx g2, g3⟩
  unfold cutF
  refine Bd.loose ?_ a
  split
  · exact h1
  · exact fun i h0 g1 => by obtain ⟨a1, a2, a3⟩ := h1 i h0 g1; exact ⟨a1, a2, upd_in hp a3⟩

def BT.cut (id : Int) : BT → BT
  | .nil => .nil
  | .node i c n => if i = id then n else .node i (c.cut id) (n.cut id)
def BT.kids (id : Int) : BT → BT
  | .nil => .nil
  | .node i c n => if i = id then c else if id ∈ c.ids then c.kids id else n.kids id
theorem BT.cut_out {id : Int} : ∀ {t : BT}, id ∉ t.ids → t.cut id = t
  | .nil, _ => rfl
  | .node i c n, h => by
    simp only [BT.ids, List.mem_cons, List.mem_append, not_or] at h
    simp only [BT.cut, if_neg (Ne.symm h.1), BT.cut_out h.2.1, BT.cut_out h.2.2]
theorem BT.cut_ids {id : Int} : ∀ {t : BT}, id ∈ t.ids → t.ids.Nodup → t.ids.Perm ((t.cut id).ids ++ id :: (t.kids id).ids)
  | .nil, h, _ => by simp [BT.ids] at h
  | .node i c n, h, hnd => by
    simp only [BT.ids, List.nodup_cons, List.nodup_append, List.mem_append, not_or] at hnd
    obtain ⟨⟨x1, x2⟩, x3, x4, x5⟩ := hnd
    by_cases e : i = id
    · subst e
      simp only [BT.cut, BT.kids, BT.ids, if_true]
      rw [List.perm_iff_count]; intro z; simp only [List.count_cons, List.count_append]; omega
    · simp only [BT.ids, List.mem_cons, List.mem_append] at h
      by_cases hc : id ∈ c.ids
      · have hn : id ∉ n.ids := fun g => x5 id hc id g rfl
        have ih := BT.cut_ids hc x3
        simp only [BT.cut, BT.kids, BT.ids, if_neg e, if_pos hc, BT.cut_out hn]
        rw [List.perm_iff_count] at ih ⊢; intro z
        have := ih z
        simp only [List.count_cons, List.count_append] at this ⊢; omega
      · have hn : id ∈ n.ids := (h.resolve_left (Ne.symm e)).resolve_left hc
        have ih := BT.cut_ids hn x4
        simp only [BT.cut, BT.kids, BT.ids, if_neg e, if_neg hc, BT.cut_out hc]
        rw [List.perm_iff_count] at ih ⊢; intro z
        have := ih z
        simp only [List.count_cons, List.count_append] at this ⊢; omega
theorem BT.cut_sub {id x : Int} : ∀ {t : BT}, x ∈ (t.cut id).ids → x ∈ t.ids
  | .nil, h => h
  | .node i c n, h => by
    simp only [BT.cut] at h
    simp only [BT.ids, List.mem_cons, List.mem_append]
    split at h
    · exact .inr (.inr h)
    · simp only [BT.ids, List.mem_cons, List.mem_append] at h
      rcases h with h | h | h
      · exact .inl h
      · exact .inr (.inl (BT.cut_sub h))
      · exact .inr (.inr (BT.cut_sub h))
theorem Ord.cut {f : PH} {id : Int} : ∀ {t : BT}, Ord f t → Ord f (t.cut id)
  | .nil, _ => trivial
  | .node i c n, ⟨h1, h2, h3⟩ => by
    simp only [BT.cut]
    split
    · exact h3
    · exact ⟨fun x hx => h1 x (BT.cut_sub hx), h2.cut, h3.cut⟩
theorem Ord.kids {f : PH} {id : Int} : ∀ {t : BT}, Ord f t → Ord f (t.kids id)
  | .nil, _ => trivial
  | .node i c n, ⟨h1, h2, h3⟩ => by
    simp only [BT.kids]
    split
    · exact h2
    · split
      · exact h2.kids
      · exact h3.kids
/-- What the links at an id in a tree are. -/
theorem Rep.at {f : PH} {id : Int} : ∀ {t : BT} {p : Int}, Rep f p t → id ∈ t.ids → t.ids.Nodup →
    f.child id = (t.kids id).root ∧ Rep f id (t.kids id) ∧ (t.root = id ∧ f.prev id = p ∨ t.root ≠ id ∧ f.prev id ∈ (t.cut id).ids) ∧ (f.next id = -1 ∨ f.next id ∈ (t.cut id).ids)
  | .nil, _, _, h, _ => by simp [BT.ids] at h
  | .node i c n, p, ⟨h1, h2, h3, h4, h5⟩, h, hnd => by
    simp only [BT.ids, List.nodup_cons, List.nodup_append, List.mem_append, not_or] at hnd
    obtain ⟨⟨x1, x2⟩, x3, x4, x5⟩ := hnd
    by_cases e : i = id
    · subst e
      rw [show BT.kids i (.node i c n) = c from if_pos rfl, show BT.cut i (.node i c n) = n from if_pos rfl]
      refine ⟨h2, h4, .inl ⟨rfl, h1⟩, ?_⟩
      rw [h3]
      rcases n.root_mem with ⟨h, _⟩ | h
      · exact .inl h
      · exact .inr h
    · simp only [BT.ids, List.mem_cons, List.mem_append] at h
      simp only [BT.kids, BT.cut, BT.root, if_neg e, BT.ids, List.mem_cons, List.mem_append]
      by_cases hc : id ∈ c.ids
      · obtain ⟨a1, a2, a3, a4⟩ := Rep.at h4 hc x3
        rw [if_pos hc]
        refine ⟨a1, a2, .inr ⟨e, ?_⟩, a4.imp (fun h => h) fun h => .inr (.inl h)⟩
        rcases a3 with ⟨_, g⟩ | ⟨_, g⟩
        · exact .inl g
        · exact .inr (.inl g)
      · have hn : id ∈ n.ids := (h.resolve_left (Ne.symm e)).resolve_left hc
        obtain ⟨a1, a2, a3, a4⟩ := Rep.at h5 hn x4
        rw [if_neg hc]
        refine ⟨a1, a2, .inr ⟨e, ?_⟩, a4.imp (fun h => h) fun h => .inr (.inr h)⟩
        rcases a3 with ⟨_, g⟩ | ⟨_, g⟩
        · exact .inl g
        · exact .inr (.inr g)

structure CutIs (f g : PH) (id p0 x0 : Int) : Prop where
  child : ∀ j, g.child j = if j = p0 ∧ f.child p0 = id then x0 else f.child j
  next : ∀ j, g.next j = if j = id then -1 else if j = p0 ∧ f.child p0 ≠ id then x0 else f.next j
  prev : ∀ j, g.prev j = if j = id then -1 else if j = x0 ∧ x0 ≠ -1 then p0 else f.prev j
theorem cut_is {f : PH} {id : Int} (hp : f.prev id ≠ -1) : CutIs f (cutF f id) id (f.prev id) (f.next id) := by
  refine ⟨fun j => ?_, fun j => ?_, fun j => ?_⟩
  all_goals
    unfold cutF looseF
    simp only [if_neg hp]
    by_cases h1 : f.child (f.prev id) = id <;> by_cases h2 : f.next id = -1 <;> simp [h1, h2, upd]
theorem cut_mv {f : PH} {id : Int} (hp : f.prev id ≠ -1) : Mv f (cutF f id) [id, f.prev id, f.next id] := by
  have h := cut_is hp
  refine ⟨?_, ?_, ?_, fun i hi => ?_, fun i hi => ?_, fun i hi => ?_⟩
  · unfold cutF looseF; simp only [if_neg hp]; split <;> split <;> rfl
  · unfold cutF looseF; simp only [if_neg hp]; split <;> split <;> rfl
  · unfold cutF looseF; simp only [if_neg hp]; split <;> split <;> rfl
  · simp only [List.mem_cons, List.not_mem_nil, or_false, not_or] at hi
    rw [h.child, if_neg fun e => hi.2.1 e.1]
  · simp only [List.mem_cons, List.not_mem_nil, or_false, not_or] at hi
    rw [h.next, if_neg hi.1, if_neg fun e => hi.2.1 e.1]
  · simp only [List.mem_cons, List.not_mem_nil, or_false, not_or] at hi
    rw [h.prev, if_neg hi.1, if_neg fun e => hi.2.2 e.1]

theorem cut_rep {f g : PH} {id p0 x0 : Int} (hg : CutIs f g id p0 x0) (e0 : f.prev id = p0) (e1 : f.next id = x0) : ∀ {t : BT} {p : Int}, Rep f p t → id ∈ t.ids → t.ids.Nodup → (∀ i ∈ t.ids, 0 ≤ i) → t.root ≠ id → Rep g p (t.cut id) ∧ (t.cut id).root = t.root
  | .nil, _, _, h, _, _, _ => by simp [BT.ids] at h
  | .node i c n, p, ⟨h1, h2, h3, h4, h5⟩, h, hnd, hnn, hr => by
    have hid0 := hnn id h
    have hi0 := hnn i (by simp [BT.ids])
    have e : i ≠ id := hr
    simp only [BT.ids, List.nodup_cons, List.nodup_append, List.mem_append, not_or] at hnd
    obtain ⟨⟨x1, x2⟩, x3, x4, x5⟩ := hnd
    simp only [BT.ids, List.mem_cons, List.mem_append] at h
    simp only [BT.cut, if_neg e]
    -- a tree that holds neither of the three stays
    have stay : ∀ (t : BT) (q : Int), Rep f q t → id ∉ t.ids → p0 ∉ t.ids → x0 ∉ t.ids → Rep g q t := fun t q ht a b d => ht.congr fun j hj => by
      have j1 : j ≠ id := fun e => a (e ▸ hj)
      have j2 : j ≠ p0 := fun e => b (e ▸ hj)
      have j3 : j ≠ x0 := fun e => d (e ▸ hj)
      exact ⟨by rw [hg.child, if_neg fun e => j2 e.1], by rw [hg.next, if_neg j1, if_neg fun e => j2 e.1], by rw [hg.prev, if_neg j1, if_neg fun e => j3 e.1]⟩
    -- what follows the one that is cut
    have follow : ∀ (cc cn : BT) (q : Int), Rep f q (.node id cc cn) → q = p0 → (BT.node id cc cn).ids.Nodup → (∀ j ∈ (BT.node id cc cn).ids, 0 ≤ j) → p0 ∉ (BT.node id cc cn).ids → Rep g p0 cn ∧ cn.root = x0 := by
      intro cc cn q ⟨k1, k2, k3, k4, k5⟩ hq hnd' hnn' hp'
      have hx : cn.root = x0 := k3.symm.trans e1
      refine ⟨?_, hx⟩
      cases cn with
      | nil => trivial
      | node x xc xn =>
        obtain ⟨l1, l2, l3, l4, l5⟩ := k5
        have hxx : x = x0 := hx
        subst hxx
        have hx0 := hnn' x (by simp [BT.ids])
        simp only [BT.ids, List.nodup_cons, List.nodup_append, List.mem_append, List.mem_cons, not_or] at hnd' hp'
        obtain ⟨⟨y1, y2, y3, y4⟩, y5, ⟨⟨z1, z2⟩, z3, z4, z5⟩, y6⟩ := hnd'
        obtain ⟨q1, q2, q3, q4, q5⟩ := hp'
        refine ⟨?_, ?_, ?_, stay _ _ l4 y3 q4 z1, stay _ _ l5 y4 q5 z2⟩
        · rw [hg.prev, if_neg (Ne.symm y2), if_pos ⟨rfl, by omega⟩]
        · rw [hg.child, if_neg fun e => q3 e.1.symm]; exact l2
        · rw [hg.next, if_neg (Ne.symm y2), if_neg fun e => q3 e.1.symm]; exact l3
    by_cases hc : id ∈ c.ids
    · have hn : id ∉ n.ids := fun k => x5 id hc id k rfl
      have hnc : ∀ j ∈ c.ids, 0 ≤ j := fun j hj => hnn j (by simp [BT.ids, hj])
      obtain ⟨b1, b2, b3, b4⟩ := Rep.at h4 hc x3
      have hx0c : x0 = -1 ∨ x0 ∈ c.ids := by rw [← e1]; exact b4.imp (fun h => h) BT.cut_sub
      have hxi : ¬ (i = x0 ∧ x0 ≠ -1) := fun k => by
        rcases hx0c with h | h
        · exact k.2 h
        · exact x1 (k.1 ▸ h)
      have hxn : x0 ∉ n.ids := fun k => by
        rcases hx0c with h | h
        · have := hnn x0 (by simp [BT.ids, k]); omega
        · exact x5 x0 h x0 k rfl
      rw [BT.cut_out hn]
      refine ⟨?_, rfl⟩
      by_cases hroot : c.root = id
      · cases c with
        | nil => simp [BT.ids] at hc
        | node ic cc cn =>
          have : ic = id := hroot
          subst this
          have hp0 : p0 = i := by rw [← e0]; exact h4.1
          subst hp0
          obtain ⟨f1, f2⟩ := follow cc cn _ h4 rfl x3 hnc x1
          simp only [BT.cut, if_true]
          refine ⟨?_, ?_, ?_, f1, stay _ _ h5 hn x2 hxn⟩
          · rw [hg.prev, if_neg e, if_neg hxi]; exact h1
          · rw [hg.child, if_pos ⟨rfl, h2⟩, f2]
          · rw [hg.next, if_neg e, if_neg fun k => k.2 h2]; exact h3
      · obtain ⟨r1, r2⟩ := cut_rep hg e0 e1 h4 hc x3 hnc hroot
        have hp0c : p0 ∈ c.ids := by
          rcases b3 with ⟨b, _⟩ | ⟨_, b⟩
          · exact absurd b hroot
          · rw [← e0]; exact BT.cut_sub b
        have hip : i ≠ p0 := fun k => x1 (k ▸ hp0c)
        refine ⟨?_, ?_, ?_, r1, stay _ _ h5 hn (fun k => x5 p0 hp0c p0 k rfl) hxn⟩
        · rw [hg.prev, if_neg e, if_neg hxi]; exact h1
        · rw [hg.child, if_neg fun k => hip k.1, r2]; exact h2
        · rw [hg.next, if_neg e, if_neg fun k => hip k.1]; exact h3
    · have hn : id ∈ n.ids := (h.resolve_left (Ne.symm e)).resolve_left hc
      have hnc : ∀ j ∈ n.ids, 0 ≤ j := fun j hj => hnn j (by simp [BT.ids, hj])
      obtain ⟨b1, b2, b3, b4⟩ := Rep.at h5 hn x4
      have hx0c : x0 = -1 ∨ x0 ∈ n.ids := by rw [← e1]; exact b4.imp (fun h => h) BT.cut_sub
      have hxi : ¬ (i = x0 ∧ x0 ≠ -1) := fun k => by
        rcases hx0c with h | h
        · exact k.2 h
        · exact x2 (k.1 ▸ h)
      have hxn : x0 ∉ c.ids := fun k => by
        rcases hx0c with h | h
        · have := hnn x0 (by simp [BT.ids, k]); omega
        · exact x5 x0 k x0 h rfl
      rw [BT.cut_out hc]
      refine ⟨?_, rfl⟩
      by_cases hroot : n.root = id
      · cases n with
        | nil => simp [BT.ids] at hn
        | node ic cc cn =>
          have : ic = id := hroot
          subst this
          have hp0 : p0 = i := by rw [← e0]; exact h5.1
          subst hp0
          obtain ⟨f1, f2⟩ := follow cc cn _ h5 rfl x4 hnc x2
          have hch : f.child p0 ≠ ic := by
            rw [h2]
            rcases c.root_mem with ⟨k, _⟩ | k
            · omega
            · intro e; exact hc (e ▸ k)
          simp only [BT.cut, if_true]
          refine ⟨?_, ?_, ?_, stay _ _ h4 hc x1 hxn, f1⟩
          · rw [hg.prev, if_neg e, if_neg hxi]; exact h1
          · rw [hg.child, if_neg fun k => hch k.2]; exact h2
          · rw [hg.next, if_neg e, if_pos ⟨rfl, hch⟩, f2]
      · obtain ⟨r1, r2⟩ := cut_rep hg e0 e1 h5 hn x4 hnc hroot
        have hp0c : p0 ∈ n.ids := by
          rcases b3 with ⟨b, _⟩ | ⟨_, b⟩
          · exact absurd b hroot
          · rw [← e0]; exact BT.cut_sub b
        have hip : i ≠ p0 := fun k => x2 (k ▸ hp0c)
        refine ⟨?_, ?_, ?_, stay _ _ h4 hc (fun k => x5 p0 k p0 hp0c rfl) hxn, r1⟩
        · rw [hg.prev, if_neg e, if_neg hxi]; exact h1
        · rw [hg.child, if_neg fun k => hip k.1]; exact h2
        · rw [hg.next, if_neg e, if_neg fun k => hip k.1, r2]; exact h3

/-! ### the whole heap -/
def pIds (l : List PItem) : List Int := l.map PItem.id
structure HI (n : Nat) (l : List PItem) (f : PH) (root many : Int) (t : BT) : Prop where
  tr : Tr f t
  ids : t.ids.Perm (pIds l)
  nodup : (pIds l).Nodup
  sorted : l.Pairwise PItem.lt
  vals : ∀ x ∈ l, f.it x.id = x
  range : ∀ x ∈ l, 0 ≤ x.id ∧ x.id < n
  there : ∀ i : Int, 0 ≤ i → i < n → (f.there i = true ↔ i ∈ pIds l)
  root : root = t.root
  many : many = l.length
  bd : Bd n f
theorem HI.tnd {n : Nat} {l : List PItem} {f : PH} {root many : Int} {t : BT} (h : HI n l f root many t) : t.ids.Nodup := h.ids.nodup_iff.2 h.nodup
theorem HI.lenLe {n : Nat} {l : List PItem} {f : PH} {root many : Int} {t : BT} (h : HI n l f root many t) : l.length ≤ n := by
  have := nodup_bound n (pIds l) h.nodup (fun a ha => by
    obtain ⟨x, hx, rfl⟩ := List.mem_map.1 ha
    exact h.range x hx)
  simpa [pIds] using this

theorem HI.empty {n : Nat} {l : List PItem} {f : PH} {root many : Int} {t : BT} (h : HI n l f root many t) : (root = -1 ↔ l = []) := by
  rw [h.root]
  cases t with
  | nil =>
    have := h.ids
    simp only [BT.ids, List.nil_perm, pIds, List.map_eq_nil_iff] at this
    simp [BT.root, this]
  | node i c nx =>
    have h1 := h.tr.nn i (by simp [BT.ids])
    constructor
    · intro e; simp only [BT.root] at e; omega
    · rintro rfl
      have := h.ids
      simp [BT.ids, pIds] at this

/-- The root is the first one in the order. -/
theorem HI.head {n : Nat} {x : PItem} {l : List PItem} {f : PH} {root many : Int} {t : BT} (h : HI n (x :: l) f root many t) : root = x.id := by
  rw [h.root]
  cases t with
  | nil => have := h.ids; simp [BT.ids, pIds] at this
  | node i c nx =>
    have e1 : nx = .nil := by
      have := h.tr.one
      cases nx with
      | nil => rfl
      | node _ _ _ => exact this.elim
    subst e1
    simp only [BT.root]
    have hi : i ∈ pIds (x :: l) := h.ids.mem_iff.1 (by simp [BT.ids])
    have hx : x.id ∈ (BT.node i c .nil).ids := h.ids.mem_iff.2 (by simp [pIds])
    simp only [BT.ids, List.append_nil, List.mem_cons] at hx
    rcases hx with hx | hx
    · exact hx.symm
    · obtain ⟨y, hy, rfl⟩ := List.mem_map.1 hi
      have h1 := h.tr.ord.1 x.id hx
      rw [h.vals x (by simp), h.vals y hy] at h1
      rcases List.mem_cons.1 hy with rfl | hy
      · rfl
      · have h2 := (List.pairwise_cons.1 h.sorted).1 y hy
        exact absurd h1 h2.asymm

/-! ### lists in the order -/
def pput (x : PItem) : List PItem → List PItem
  | [] => [x]
  | y :: t => if PItem.lt x y then x :: y :: t else y :: pput x t
theorem pput_perm (x : PItem) : ∀ l, (pput x l).Perm (x :: l)
  | [] => List.Perm.refl _
  | y :: t => by
    unfold pput; split
    · exact List.Perm.refl _
    · exact ((pput_perm x t).cons y).trans (List.Perm.swap x y t)
theorem pput_sorted (x : PItem) : ∀ l, l.Pairwise PItem.lt → x.id ∉ pIds l → (pput x l).Pairwise PItem.lt
  | [], _, _ => by simp [pput]
  | y :: t, h, hx => by
    obtain ⟨h1, h2⟩ := List.pairwise_cons.1 h
    simp only [pIds, List.map_cons, List.mem_cons, not_or] at hx
    unfold pput; split
    · rename_i hlt
      refine List.pairwise_cons.2 ⟨fun z hz => ?_, h⟩
      rcases List.mem_cons.1 hz with rfl | hz
      · exact hlt
      · exact hlt.trans (h1 z hz)
    · rename_i hlt
      have hyx := (PItem.lt_total hx.1).resolve_left hlt
      refine List.pairwise_cons.2 ⟨fun z hz => ?_, pput_sorted x t h2 hx.2⟩
      rcases List.mem_cons.1 ((pput_perm x t).mem_iff.1 hz) with rfl | hz
      · exact hyx
      · exact h1 z hz
def pout (l : List PItem) (id : Int) : List PItem := l.filter fun x => decide (x.id ≠ id)
theorem pout_ids (l : List PItem) (id : Int) : pIds (pout l id) = (pIds l).filter fun i => decide (i ≠ id) := by
  unfold pIds pout
  rw [List.filter_map]; rfl
theorem mem_pout {l : List PItem} {id : Int} {x : PItem} : x ∈ pout l id ↔ x ∈ l ∧ x.id ≠ id := by simp [pout]
theorem mem_pout_ids {l : List PItem} {id i : Int} : i ∈ pIds (pout l id) ↔ i ∈ pIds l ∧ i ≠ id := by rw [pout_ids]; simp
theorem nodup_filter_perm {l : List Int} {id : Int} (h : l.Nodup) (hm : id ∈ l) : l.Perm (id :: l.filter fun i => decide (i ≠ id)) := by
  rw [List.perm_iff_count]; intro z
  by_cases e : z = id
  · subst e
    have h1 : l.count z = 1 := by
      have := List.nodup_iff_count.1 h z
      have h3 : 0 < l.count z := List.count_pos_iff.2 hm
      omega
    rw [h1, List.count_cons_self, List.count_eq_zero_of_not_mem (by simp)]
  · rw [List.count_cons_of_ne (Ne.symm e)]
    rw [List.count_filter (by simpa using e)]
theorem pout_len {l : List PItem} {id : Int} (h : (pIds l).Nodup) (hm : id ∈ pIds l) : (pout l id).length + 1 = l.length := by
  have := (nodup_filter_perm h hm).length_eq
  rw [← pout_ids] at this
  simp only [pIds, List.length_map, List.length_cons] at this
  omega

/-- One is put in. -/
def insF (f : PH) (x : PItem) : PH := { dl := upd f.dl x.id x.dl, sq := upd f.sq x.id x.sq, child := upd f.child x.id (-1), next := upd f.next x.id (-1), prev := upd f.prev x.id (-1), there := upd f.there x.id true }
theorem HI.insert {n : Nat} {l : List PItem} {f : PH} {root many : Int} {t : BT} (h : HI n l f root many t) {x : PItem} (h0 : 0 ≤ x.id ∧ x.id < n) (hx : x.id ∉ pIds l) :
    HI n (pput x l) (meldF (insF f x) root x.id).1 (meldF (insF f x) root x.id).2 (many + 1) (meldT (insF f x) t (.node x.id .nil .nil)) := by
  have hxt : x.id ∉ t.ids := fun e => hx (h.ids.mem_iff.1 e)
  have hne : ∀ i ∈ t.ids, i ≠ x.id := fun i hi e => hxt (e ▸ hi)
  have hit : ∀ i, i ≠ x.id → (insF f x).it i = f.it i := fun i hi => by simp [PH.it, insF, upd, hi]
  have hord : ∀ {t : BT}, (∀ i ∈ t.ids, i ≠ x.id) → Ord f t → Ord (insF f x) t := by
    intro t
    induction t with
    | nil => intro _ _; trivial
    | node i c nx ih1 ih2 =>
      rintro hne ⟨o1, o2, o3⟩
      refine ⟨fun z hz => ?_, ih1 (fun j hj => hne j (by simp [BT.ids, hj])) o2, ih2 (fun j hj => hne j (by simp [BT.ids, hj])) o3⟩
      rw [hit _ (hne i (by simp [BT.ids])), hit _ (hne z (by simp [BT.ids, hz]))]
      exact o1 z hz
  have ht : Tr (insF f x) t := ⟨h.tr.rep.congr fun i hi => ⟨upd_ne _ _ (hne i hi), upd_ne _ _ (hne i hi), upd_ne _ _ (hne i hi)⟩, h.tr.one, hord hne h.tr.ord, h.tr.nn⟩
  have hn : Tr (insF f x) (.node x.id .nil .nil) := ⟨⟨upd_same _ _ _, upd_same _ _ _, upd_same _ _ _, trivial, trivial⟩, trivial, ⟨fun z hz => by simp [BT.ids] at hz, trivial, trivial⟩, fun i hi => by simp [BT.ids] at hi; omega⟩
  have hnd : (t.ids ++ (BT.node x.id .nil .nil).ids).Nodup := by
    rw [List.nodup_append]
    refine ⟨h.tnd, by simp [BT.ids], fun a ha b hb e => ?_⟩
    simp [BT.ids] at hb
    subst hb e
    exact hxt ha
  obtain ⟨m1, m2, m3, m4⟩ := meld_tr ht hn hnd
  rw [h.root]
  change Tr (meldF (insF f x) t.root x.id).1 _ at m1
  change (meldF (insF f x) t.root x.id).2 = _ at m2
  change Mv (insF f x) (meldF (insF f x) t.root x.id).1 _ at m4
  have hpp := pput_perm x l
  have hids : (pIds (pput x l)).Perm (x.id :: pIds l) := hpp.map PItem.id
  refine ⟨m1, ?_, ?_, pput_sorted x l h.sorted hx, ?_, ?_, ?_, m2, ?_, ?_⟩
  · refine m3.trans (List.Perm.trans ?_ hids.symm)
    simp only [BT.ids, List.append_nil]
    exact (List.perm_append_singleton _ _).trans (h.ids.cons _)
  · exact hids.nodup_iff.2 (List.nodup_cons.2 ⟨hx, h.nodup⟩)
  · intro y hy
    rw [m4.it]
    rcases List.mem_cons.1 (hpp.mem_iff.1 hy) with rfl | hy
    · simp [PH.it, insF, upd]
    · rw [hit _ (fun e => hx (e ▸ List.mem_map.2 ⟨y, hy, rfl⟩))]; exact h.vals y hy
  · intro y hy
    rcases List.mem_cons.1 (hpp.mem_iff.1 hy) with rfl | hy
    · exact h0
    · exact h.range y hy
  · intro i g0 g1
    rw [m4.there, hids.mem_iff, List.mem_cons]
    show upd f.there x.id true i = true ↔ _
    by_cases e : i = x.id
    · subst e; simp [upd_same]
    · rw [upd_ne _ _ e, h.there i g0 g1]; simp [e]
  · rw [h.many, hpp.length_eq]; simp
  · have hb : Bd n (insF f x) := fun i g0 g1 => by
      obtain ⟨a, b, c⟩ := h.bd i g0 g1
      exact ⟨upd_in (by omega) a, upd_in (by omega) b, upd_in (by omega) c⟩
    refine (hb.meld ?_ (by omega)).1
    rcases t.root_mem with ⟨e, _⟩ | e
    · omega
    · obtain ⟨y, hy, e⟩ := List.mem_map.1 (h.ids.mem_iff.1 e)
      have := h.range y hy
      omega

/-- One is taken out: the links before and behind; what its children were put together to. -/
def zeroF (f : PH) (id : Int) : PH := { dl := upd f.dl id 0, sq := upd f.sq id 0, child := upd f.child id 0, next := upd f.next id 0, prev := upd f.prev id 0, there := upd f.there id false }
theorem HI.out {n : Nat} {l : List PItem} {f g k : PH} {root many : Int} {t u gt : BT} {id : Int} (h : HI n l f root many t) (hid : id ∈ pIds l)
    (hu : Tr g u) (hg : Tr k gt) (hfg : ∀ i, g.it i = f.it i) (hth : g.there = f.there) (hmv : Mv g k gt.ids) (hperm : t.ids.Perm (u.ids ++ id :: gt.ids)) (hb : Bd n k) (hn : 1 ≤ n) :
    HI n (pout l id) (zeroF (meldF k u.root gt.root).1 id) (meldF k u.root gt.root).2 (many - 1) (meldT k u gt) := by
  have hnd : (u.ids ++ id :: gt.ids).Nodup := hperm.nodup_iff.1 h.tnd
  have hnd2 : (u.ids ++ gt.ids).Nodup := by
    have : (id :: (u.ids ++ gt.ids)).Nodup := (List.perm_middle.nodup_iff).1 hnd
    exact (List.nodup_cons.1 this).2
  have hnot : id ∉ u.ids ++ gt.ids := by
    have : (id :: (u.ids ++ gt.ids)).Nodup := (List.perm_middle.nodup_iff).1 hnd
    exact (List.nodup_cons.1 this).1
  have hu' : Tr k u := hu.mv hmv fun i hi e => by
    rw [List.nodup_append] at hnd2
    exact hnd2.2.2 i hi i e rfl
  obtain ⟨m1, m2, m3, m4⟩ := meld_tr hu' hg hnd2
  have hidT : ∀ i ∈ (meldT k u gt).ids, i ≠ id := fun i hi e => hnot (m3.mem_iff.1 (e ▸ hi))
  have hitK : ∀ i, (meldF k u.root gt.root).1.it i = f.it i := fun i => by rw [m4.it, hmv.it]; exact hfg i
  have hitZ : ∀ i, i ≠ id → (zeroF (meldF k u.root gt.root).1 id).it i = f.it i := fun i hi => by
    rw [← hitK]; simp [PH.it, zeroF, upd, hi]
  have hord : ∀ {t : BT}, (∀ i ∈ t.ids, i ≠ id) → Ord (meldF k u.root gt.root).1 t → Ord (zeroF (meldF k u.root gt.root).1 id) t := by
    intro t
    induction t with
    | nil => intro _ _; trivial
    | node i c nx ih1 ih2 =>
      rintro hne ⟨o1, o2, o3⟩
      refine ⟨fun z hz => ?_, ih1 (fun j hj => hne j (by simp [BT.ids, hj])) o2, ih2 (fun j hj => hne j (by simp [BT.ids, hj])) o3⟩
      have := o1 z hz
      rw [hitK, hitK] at this
      rw [hitZ _ (hne i (by simp [BT.ids])), hitZ _ (hne z (by simp [BT.ids, hz]))]
      exact this
  have hfil := nodup_filter_perm h.nodup hid
  have hpi : (id :: (meldT k u gt).ids).Perm (id :: pIds (pout l id)) := by
    rw [pout_ids]
    exact ((m3.cons id).trans (List.perm_middle.symm.trans (hperm.symm.trans h.ids))).trans hfil
  have hu1 : -1 ≤ u.root ∧ u.root < n := by
    rcases u.root_mem with ⟨e, _⟩ | e
    · omega
    · obtain ⟨y, hy, e⟩ := List.mem_map.1 (h.ids.mem_iff.1 (hperm.mem_iff.2 (List.mem_append.2 (.inl e))))
      have := h.range y hy
      omega
  have hg1 : -1 ≤ gt.root ∧ gt.root < n := by
    rcases gt.root_mem with ⟨e, _⟩ | e
    · omega
    · obtain ⟨y, hy, e⟩ := List.mem_map.1 (h.ids.mem_iff.1 (hperm.mem_iff.2 (List.mem_append.2 (.inr (List.mem_cons.2 (.inr e))))))
      have := h.range y hy
      omega
  have hbm := (hb.meld hu1 hg1).1
  refine ⟨⟨m1.rep.congr fun i hi => ⟨upd_ne _ _ (hidT i hi), upd_ne _ _ (hidT i hi), upd_ne _ _ (hidT i hi)⟩, m1.one, hord hidT m1.ord, m1.nn⟩, (List.perm_cons id).1 hpi, ?_, ?_, ?_, ?_, ?_, m2, ?_, ?_⟩
  · rw [pout_ids]; exact h.nodup.filter _
  · exact h.sorted.filter _
  · intro y hy
    obtain ⟨h1, h2⟩ := mem_pout.1 hy
    rw [hitZ _ h2]; exact h.vals y h1
  · intro y hy; exact h.range y (mem_pout.1 hy).1
  · intro i g0 g1
    rw [mem_pout_ids]
    show upd (meldF k u.root gt.root).1.there id false i = true ↔ _
    rw [m4.there, hmv.there, hth]
    by_cases e : i = id
    · subst e; simp [upd_same]
    · rw [upd_ne _ _ e, h.there i g0 g1]; simp [e]
  · rw [h.many]
    have := pout_len h.nodup hid
    omega
  · intro i g0 g1
    obtain ⟨a, b, c⟩ := hbm i g0 g1
    exact ⟨upd_in (by omega) a, upd_in (by omega) b, upd_in (by omega) c⟩
end Go.Proofs

/- What heaps of deadlines tell, in words of a list in order. No program stands here. -/
namespace Go.Proofs
open Go Go.Gx

def PItem.cells (x : PItem) : List Value := [.int .i64 x.id, .int .u64 x.dl, .int .u64 x.sq]
theorem PItem.cells_len (x : PItem) : x.cells.length = 3 := rfl

/-- The error of an id that must be there, or must not. -/
def pErr (l : List PItem) (n : Nat) (id : Int) (t : Bool) : Int := if id < 0 ∨ id ≥ n then 2 else if t = true ∧ id ∉ pIds l then 6 else if t = false ∧ id ∈ pIds l then 5 else 0
theorem pErr_range {l : List PItem} {n : Nat} {id : Int} {t : Bool} (h : id < 0 ∨ id ≥ n) : pErr l n id t = 2 := if_pos h
theorem pErr_none {l : List PItem} {n : Nat} {id : Int} (h : ¬ (id < 0 ∨ id ≥ n)) (h2 : id ∉ pIds l) : pErr l n id true = 6 := by simp [pErr, h, h2]
theorem pErr_known {l : List PItem} {n : Nat} {id : Int} (h : ¬ (id < 0 ∨ id ≥ n)) (h2 : id ∈ pIds l) : pErr l n id false = 5 := by simp [pErr, h, h2]
theorem pErr_ok1 {l : List PItem} {n : Nat} {id : Int} (h : ¬ (id < 0 ∨ id ≥ n)) (h2 : id ∈ pIds l) : pErr l n id true = 0 := by simp [pErr, h, h2]
theorem pErr_ok0 {l : List PItem} {n : Nat} {id : Int} (h : ¬ (id < 0 ∨ id ≥ n)) (h2 : id ∉ pIds l) : pErr l n id false = 0 := by simp [pErr, h, h2]
theorem pErr_is0 {l : List PItem} {n : Nat} {id : Int} (h : pErr l n id false = 0) : (0 ≤ id ∧ id < n) ∧ id ∉ pIds l := by
  unfold pErr at h
  split at h
  · omega
  · simp only [Bool.false_eq_true, false_and, if_false, true_and] at h
    split at h
    · omega
    · exact ⟨by omega, by assumption⟩
theorem pErr_is1 {l : List PItem} {n : Nat} {id : Int} (h : pErr l n id true = 0) : (0 ≤ id ∧ id < n) ∧ id ∈ pIds l := by
  unfold pErr at h
  split at h
  · omega
  · simp only [Bool.true_eq_false, false_and, if_false, true_and] at h
    split at h
    · omega
    · exact ⟨by omega, Classical.not_not.1 (by assumption)⟩
def pIns (l : List PItem) (n : Nat) (x : PItem) : List PItem := if pErr l n x.id false = 0 then pput x l else l
def pChg (l : List PItem) (n : Nat) (x : PItem) : List PItem := if pErr l n x.id true = 0 then pput x (pout l x.id) else l
def pDel (l : List PItem) (n : Nat) (id : Int) : List PItem := if pErr l n id true = 0 then pout l id else l
def pMinId (l : List PItem) : Int := (l.head?.map PItem.id).getD 0
def pMinOk (l : List PItem) : Bool := !l.isEmpty
def pMin (l : List PItem) : Value := .tuple #[.int .i64 (pMinId l), .bool (pMinOk l)]
def pGet? (l : List PItem) (id : Int) : Option PItem := l.find? fun x => decide (x.id = id)
def pGetD (l : List PItem) (id : Int) : Int := ((pGet? l id).map PItem.dl).getD 0
def pGetS (l : List PItem) (id : Int) : Int := ((pGet? l id).map PItem.sq).getD 0
def pGetOk (l : List PItem) (id : Int) : Bool := decide (id ∈ pIds l)
def pGet (l : List PItem) (id : Int) : Value := .tuple #[.int .u64 (pGetD l id), .int .u64 (pGetS l id), .bool (pGetOk l id)]

theorem pGet?_none {l : List PItem} {id : Int} (h : id ∉ pIds l) : pGet? l id = none := by
  unfold pGet?
  rw [List.find?_eq_none]
  intro x hx e
  exact h (List.mem_map.2 ⟨x, hx, by simpa using e⟩)
theorem pGet?_some {l : List PItem} (hn : (pIds l).Nodup) {x : PItem} (hx : x ∈ l) : pGet? l x.id = some x := by
  unfold pGet?
  induction l with
  | nil => simp at hx
  | cons y l ih =>
    rw [List.find?_cons]
    by_cases h : y.id = x.id
    · simp only [h, decide_true]
      rcases List.mem_cons.1 hx with rfl | hx
      · rfl
      · simp only [pIds, List.map_cons, List.nodup_cons] at hn
        exact absurd (List.mem_map.2 ⟨x, hx, h.symm⟩) hn.1
    · simp only [h, decide_false]
      rcases List.mem_cons.1 hx with rfl | hx
      · exact absurd rfl h
      · simp only [pIds, List.map_cons, List.nodup_cons] at hn
        exact ih hn.2 hx
theorem pGet_none {l : List PItem} {id : Int} (h : id ∉ pIds l) : pGet l id = .tuple #[.int .u64 0, .int .u64 0, .bool false] := by
  simp [pGet, pGetD, pGetS, pGetOk, pGet?_none h, h]
theorem pGet_some {l : List PItem} (hn : (pIds l).Nodup) {x : PItem} (hx : x ∈ l) : pGet l x.id = .tuple #[.int .u64 x.dl, .int .u64 x.sq, .bool true] := by
  have : x.id ∈ pIds l := List.mem_map.2 ⟨x, hx, rfl⟩
  simp [pGet, pGetD, pGetS, pGetOk, pGet?_some hn hx, this]
theorem pout_head {x : PItem} {l : List PItem} (hn : (pIds (x :: l)).Nodup) : pout (x :: l) x.id = l := by
  simp only [pIds, List.map_cons, List.nodup_cons] at hn
  unfold pout
  rw [List.filter_cons]
  simp only [ne_eq, not_true, decide_false, Bool.false_eq_true, if_false]
  rw [List.filter_eq_self.2]
  intro y hy
  simp only [decide_not, Bool.not_eq_eq_eq_not, Bool.not_true, decide_eq_false_iff_not]
  intro e
  exact hn.1 (List.mem_map.2 ⟨y, hy, e⟩)
theorem pout_erase {l : List PItem} (hn : (pIds l).Nodup) {id : Int} (h : id ∈ pIds l) : l.eraseIdx (ixOf (pIds l) id).toNat = pout l id := erase_filter hn h
theorem pout_not {l : List PItem} {id : Int} (h : id ∉ pIds l) : pout l id = l := by
  unfold pout
  rw [List.filter_eq_self]
  intro x hx
  simp only [ne_eq, decide_not, Bool.not_eq_eq_eq_not, Bool.not_true, decide_eq_false_iff_not]
  intro e
  exact h (List.mem_map.2 ⟨x, hx, e⟩)

/-- A list as a heap of n ids has it. -/
structure POk (n : Nat) (l : List PItem) : Prop where
  nodup : (pIds l).Nodup
  sorted : l.Pairwise PItem.lt
  range : ∀ x ∈ l, 0 ≤ x.id ∧ x.id < n
theorem HI.pok {n : Nat} {l : List PItem} {f : PH} {root many : Int} {t : BT} (h : HI n l f root many t) : POk n l := ⟨h.nodup, h.sorted, h.range⟩
theorem POk.lenLe {n : Nat} {l : List PItem} (h : POk n l) : l.length ≤ n := by
  have := nodup_bound n (pIds l) h.nodup (fun a ha => by
    obtain ⟨x, hx, rfl⟩ := List.mem_map.1 ha
    exact h.range x hx)
  simpa [pIds] using this
theorem POk.nil {n : Nat} : POk n [] := ⟨by simp [pIds], List.Pairwise.nil, by simp⟩
theorem POk.put {n : Nat} {l : List PItem} (h : POk n l) {x : PItem} (h0 : 0 ≤ x.id ∧ x.id < n) (hx : x.id ∉ pIds l) : POk n (pput x l) := by
  have hpp := pput_perm x l
  have hids : (pIds (pput x l)).Perm (x.id :: pIds l) := hpp.map PItem.id
  refine ⟨hids.nodup_iff.2 (List.nodup_cons.2 ⟨hx, h.nodup⟩), pput_sorted x l h.sorted hx, fun y hy => ?_⟩
  rcases List.mem_cons.1 (hpp.mem_iff.1 hy) with rfl | hy
  · exact h0
  · exact h.range y hy
theorem POk.out {n : Nat} {l : List PItem} (h : POk n l) (id : Int) : POk n (pout l id) :=
  ⟨by rw [pout_ids]; exact h.nodup.filter _, h.sorted.filter _, fun y hy => h.range y (mem_pout.1 hy).1⟩
theorem POk.tail {n : Nat} {l : List PItem} (h : POk n l) : POk n l.tail := by
  cases l with
  | nil => exact h
  | cons x l => rw [List.tail_cons, ← pout_head h.nodup]; exact h.out _
theorem POk.ins {n : Nat} {l : List PItem} (h : POk n l) (x : PItem) : POk n (pIns l n x) := by
  unfold pIns; split
  · obtain ⟨a, b⟩ := pErr_is0 (by assumption); exact h.put a b
  · exact h
theorem POk.chg {n : Nat} {l : List PItem} (h : POk n l) (x : PItem) : POk n (pChg l n x) := by
  unfold pChg; split
  · obtain ⟨a, b⟩ := pErr_is1 (by assumption); exact (h.out _).put a (by rw [mem_pout_ids]; simp)
  · exact h
theorem POk.del {n : Nat} {l : List PItem} (h : POk n l) (id : Int) : POk n (pDel l n id) := by
  unfold pDel; split
  · exact h.out _
  · exact h
end Go.Proofs

/- Four words of 64 bits as 256 flags: setting and clearing one, the highest one. No program stands here. -/
namespace Go.Proofs
open Go Go.Gx

def shlB (s : Int) : Int := IntKind.wrap .u64 (1 * 2 ^ min s.toNat (IntKind.bits .u64))
def orB (w s : Int) : Int := IntKind.wrap .u64 (BitVec.ofInt (IntKind.bits .u64) w ||| BitVec.ofInt (IntKind.bits .u64) (shlB s)).toNat
def andNotB (w s : Int) : Int := IntKind.wrap .u64 (BitVec.ofInt (IntKind.bits .u64) w &&& ~~~ BitVec.ofInt (IntKind.bits .u64) (shlB s)).toNat

theorem shlB_eq {s : Int} (h0 : 0 ≤ s) (h1 : s < 64) : shlB s = ((2 ^ s.toNat : Nat) : Int) := by
  unfold shlB
  have h2 : min s.toNat (IntKind.bits .u64) = s.toNat := by
    have : IntKind.bits .u64 = 64 := rfl
    omega
  rw [h2, Int.one_mul]
  have h3 : 2 ^ s.toNat < 2 ^ 64 := Nat.pow_lt_pow_right (by decide) (by omega)
  have h4 : ((2 : Int) ^ s.toNat) = ((2 ^ s.toNat : Nat) : Int) := by simp
  rw [h4]
  refine wrap_in ?_
  have : (2 : Nat) ^ 64 = 18446744073709551616 := by decide
  generalize (2 : Nat) ^ s.toNat = q at h3 ⊢
  dsimp only [inK]
  omega

theorem ofInt_bit {w : Int} (h0 : 0 ≤ w) (j : Nat) (hj : j < 64) : (BitVec.ofInt 64 w).getLsbD j = w.toNat.testBit j := by
  have : BitVec.ofInt 64 w = BitVec.ofNat 64 w.toNat := by
    apply BitVec.eq_of_toNat_eq
    simp only [BitVec.toNat_ofInt, BitVec.toNat_ofNat]
    omega
  rw [this, BitVec.getLsbD_ofNat]
  simp [hj]

theorem bv_in (x : BitVec 64) : inK .u64 (x.toNat : Int) := by
  have := x.isLt
  dsimp only [inK]
  have h : (2 : Nat) ^ 64 = 18446744073709551616 := by decide
  omega

theorem orB_spec {w s : Int} (hw : 0 ≤ w) (h0 : 0 ≤ s) (h1 : s < 64) : inK .u64 (orB w s) ∧ ∀ j, j < 64 → (orB w s).toNat.testBit j = (w.toNat.testBit j || decide (j = s.toNat)) := by
  have e : orB w s = ((BitVec.ofInt 64 w ||| BitVec.ofInt 64 (shlB s)).toNat : Int) := wrap_in (bv_in _)
  rw [e]
  refine ⟨bv_in _, fun j hj => ?_⟩
  rw [Int.toNat_natCast, BitVec.testBit_toNat, BitVec.getLsbD_or, ofInt_bit hw j hj, shlB_eq h0 h1, ofInt_bit (Int.natCast_nonneg _) j hj, Int.toNat_natCast, Nat.testBit_two_pow]
  congr 1
  exact decide_eq_decide.2 eq_comm

theorem andNotB_spec {w s : Int} (hw : 0 ≤ w) (h0 : 0 ≤ s) (h1 : s < 64) : inK .u64 (andNotB w s) ∧ ∀ j, j < 64 → (andNotB w s).toNat.testBit j = (w.toNat.testBit j && !decide (j = s.toNat)) := by
  have e : andNotB w s = ((BitVec.ofInt 64 w &&& ~~~ BitVec.ofInt 64 (shlB s)).toNat : Int) := wrap_in (bv_in _)
  rw [e]
  refine ⟨bv_in _, fun j hj => ?_⟩
  rw [Int.toNat_natCast, BitVec.testBit_toNat, BitVec.getLsbD_and, BitVec.getLsbD_not, ofInt_bit hw j hj, shlB_eq h0 h1, ofInt_bit (Int.natCast_nonneg _) j hj, Int.toNat_natCast, Nat.testBit_two_pow]
  simp only [hj, decide_true, Bool.true_and]
  congr 2
  exact decide_eq_decide.2 eq_comm

/-- Words that tell flags. -/
structure MW (W : Int → Int) (m : Int → Bool) : Prop where
  rng : ∀ i, 0 ≤ i → i < 4 → inK .u64 (W i)
  bit : ∀ v, 0 ≤ v → v ≤ 255 → (W (v / 64)).toNat.testBit (v % 64).toNat = m v

theorem MW.zero : MW (fun _ => 0) (fun _ => false) := ⟨fun _ _ _ => by dsimp only [inK]; omega, fun v _ _ => by simp⟩
theorem MW.congr {W : Int → Int} {m m' : Int → Bool} (h : MW W m) (hm : ∀ v, 0 ≤ v → v ≤ 255 → m' v = m v) : MW W m' := ⟨h.rng, fun v h0 h1 => by rw [hm v h0 h1]; exact h.bit v h0 h1⟩
theorem MW.congrW {W W' : Int → Int} {m : Int → Bool} (h : MW W m) (hm : ∀ i, 0 ≤ i → i < 4 → W' i = W i) : MW W' m := ⟨fun i h0 h1 => by rw [hm i h0 h1]; exact h.rng i h0 h1, fun v h0 h1 => by rw [hm _ (by omega) (by omega)]; exact h.bit v h0 h1⟩

theorem MW.upd {W : Int → Int} {m : Int → Bool} (h : MW W m) {v x : Int} {f : Bool → Bool} {b : Bool} (h0 : 0 ≤ v) (h1 : v ≤ 255) (hx : inK .u64 x) (hb : ∀ j, j < 64 → x.toNat.testBit j = if j = (v % 64).toNat then b else (W (v / 64)).toNat.testBit j) : MW (Proofs.upd W (v / 64) x) (Proofs.upd m v b) := by
  refine ⟨fun i g0 g1 => ?_, fun u g0 g1 => ?_⟩
  · by_cases e : i = v / 64
    · subst e; rw [upd_same]; exact hx
    · rw [upd_ne _ _ e]; exact h.rng i g0 g1
  · by_cases e : u / 64 = v / 64
    · rw [e, upd_same, hb _ (by omega)]
      by_cases e2 : u = v
      · subst e2; rw [if_pos rfl, upd_same]
      · rw [if_neg (by omega), upd_ne _ _ e2, ← e]; exact h.bit u g0 g1
    · rw [upd_ne _ _ e, upd_ne _ _ (fun e2 => e (by rw [e2]))]; exact h.bit u g0 g1

theorem MW.or {W : Int → Int} {m : Int → Bool} (h : MW W m) {v : Int} (h0 : 0 ≤ v) (h1 : v ≤ 255) : MW (Proofs.upd W (v / 64) (orB (W (v / 64)) (v % 64))) (Proofs.upd m v true) := by
  have hr := h.rng (v / 64) (by omega) (by omega)
  dsimp only [inK] at hr
  obtain ⟨hx, hb⟩ := orB_spec hr.1 (s := v % 64) (by omega) (by omega)
  refine h.upd (f := id) h0 h1 hx fun j hj => ?_
  rw [hb j hj]
  by_cases e : j = (v % 64).toNat <;> simp [e]

theorem MW.andNot {W : Int → Int} {m : Int → Bool} (h : MW W m) {v : Int} (h0 : 0 ≤ v) (h1 : v ≤ 255) : MW (Proofs.upd W (v / 64) (andNotB (W (v / 64)) (v % 64))) (Proofs.upd m v false) := by
  have hr := h.rng (v / 64) (by omega) (by omega)
  dsimp only [inK] at hr
  obtain ⟨hx, hb⟩ := andNotB_spec hr.1 (s := v % 64) (by omega) (by omega)
  refine h.upd (f := id) h0 h1 hx fun j hj => ?_
  rw [hb j hj]
  by_cases e : j = (v % 64).toNat <;> simp [e]

theorem MW.word {W : Int → Int} {m : Int → Bool} (h : MW W m) {i : Int} (h0 : 0 ≤ i) (h1 : i < 4) (j : Nat) (hj : j < 64) : (W i).toNat.testBit j = m (64 * i + j) := by
  have := h.bit (64 * i + j) (by omega) (by omega)
  rw [show (64 * i + (j : Int)) / 64 = i by omega, show ((64 * i + (j : Int)) % 64).toNat = j by omega] at this
  exact this

theorem word_ext {x y : Int} (hx : inK .u64 x) (hy : inK .u64 y) (h : ∀ j, j < 64 → x.toNat.testBit j = y.toNat.testBit j) : x = y := by
  dsimp only [inK] at hx hy
  have : x.toNat = y.toNat := by
    apply Nat.eq_of_testBit_eq
    intro j
    by_cases hj : j < 64
    · exact h j hj
    · have h64 : (2 : Nat) ^ 64 = 18446744073709551616 := by decide
      have hle : (2 : Nat) ^ 64 ≤ 2 ^ j := Nat.pow_le_pow_right (by decide) (by omega)
      rw [Nat.testBit_lt_two_pow (by omega), Nat.testBit_lt_two_pow (by omega)]
  omega

theorem MW.uniq {W W' : Int → Int} {m : Int → Bool} (h : MW W m) (h' : MW W' m) {i : Int} (h0 : 0 ≤ i) (h1 : i < 4) : W i = W' i :=
  word_ext (h.rng i h0 h1) (h'.rng i h0 h1) fun j hj => by rw [h.word h0 h1 j hj, h'.word h0 h1 j hj]

theorem MW.isZero {W : Int → Int} {m : Int → Bool} (h : MW W m) {i : Int} (h0 : 0 ≤ i) (h1 : i < 4) : W i = 0 ↔ ∀ v, 64 * i ≤ v → v < 64 * i + 64 → m v = false := by
  constructor
  · intro e v g0 g1
    have := h.word h0 h1 (v - 64 * i).toNat (by omega)
    rw [e] at this
    rw [show 64 * i + ((v - 64 * i).toNat : Int) = v by omega] at this
    rw [← this]; simp
  · intro hz
    refine word_ext (h.rng i h0 h1) (by dsimp only [inK]; omega) fun j hj => ?_
    rw [h.word h0 h1 j hj, hz _ (by omega) (by omega)]; simp

theorem bitLenAux_spec : ∀ (f x : Nat), x ≠ 0 → x < 2 ^ f → ∃ n, Lib.bitLenAux f x = n + 1 ∧ n < f ∧ x.testBit n = true ∧ ∀ j, n < j → x.testBit j = false := by
  intro f
  induction f with
  | zero => intro x h0 h1; simp at h1; omega
  | succ f ih =>
    intro x h0 h1
    simp only [Lib.bitLenAux, if_neg h0]
    by_cases h2 : x / 2 = 0
    · refine ⟨0, ?_, by omega, ?_, ?_⟩
      · rw [h2]; cases f <;> simp [Lib.bitLenAux]
      · have : x = 1 := by omega
        subst this; rfl
      · intro j hj
        obtain ⟨i, rfl⟩ : ∃ i, j = i + 1 := ⟨j - 1, by omega⟩
        rw [Nat.testBit_succ, h2]; simp
    · have h3 : x / 2 < 2 ^ f := by rw [Nat.pow_succ] at h1; omega
      obtain ⟨n, e, hn, ht, hz⟩ := ih (x / 2) h2 h3
      refine ⟨n + 1, by omega, by omega, by rw [Nat.testBit_succ]; exact ht, ?_⟩
      intro j hj
      obtain ⟨i, rfl⟩ : ∃ i, j = i + 1 := ⟨j - 1, by omega⟩
      rw [Nat.testBit_succ]; exact hz i (by omega)

/-- The highest flag; -1: there is none. -/
def IsHi (m : Int → Bool) (x : Int) : Prop := (x = -1 ∨ (0 ≤ x ∧ x ≤ 255 ∧ m x = true)) ∧ ∀ v, x < v → 0 ≤ v → v ≤ 255 → m v = false
theorem IsHi.uniq {m : Int → Bool} {x y : Int} (h : IsHi m x) (h' : IsHi m y) : x = y := by
  obtain ⟨h1, h2⟩ := h
  obtain ⟨g1, g2⟩ := h'
  rcases Int.lt_trichotomy x y with h3 | h3 | h3
  · rcases g1 with g1 | ⟨a, b, c⟩
    · omega
    · have := h2 y h3 a b; rw [c] at this; cases this
  · exact h3
  · rcases h1 with g1 | ⟨a, b, c⟩
    · omega
    · have := g2 x h3 a b; rw [c] at this; cases this

/-- The highest flag of a word that is not 0. -/
theorem MW.len {W : Int → Int} {m : Int → Bool} (h : MW W m) {i : Int} (h0 : 0 ≤ i) (h1 : i < 4) (hne : W i ≠ 0) : ∃ n : Int, (Lib.bitLen (W i).toNat : Int) = n + 1 ∧ 0 ≤ n ∧ n < 64 ∧ m (64 * i + n) = true ∧ ∀ v, 64 * i + n < v → v < 64 * i + 64 → m v = false := by
  have hr := h.rng i h0 h1
  dsimp only [inK] at hr
  have h64 : (2 : Nat) ^ 64 = 18446744073709551616 := by decide
  obtain ⟨n, e, hn, ht, hz⟩ := bitLenAux_spec 64 (W i).toNat (by omega) (by omega)
  refine ⟨n, by unfold Lib.bitLen; omega, by omega, by omega, ?_, ?_⟩
  · rw [← h.word h0 h1 n hn]; exact ht
  · intro v g0 g1
    have := h.word h0 h1 (v - 64 * i).toNat (by omega)
    rw [show 64 * i + ((v - 64 * i).toNat : Int) = v by omega] at this
    rw [← this]; exact hz _ (by omega)
end Go.Proofs

/- The queue of levels as numbers: its state, what stands in its cells, and that Push and Remove keep what it stands for. No program stands here. -/
namespace Go.Proofs
open Go Go.Gx

structure RItem where
  id : Int
  lv : Int
def RItem.cells (x : RItem) : List Value := [.int .i64 x.id, .int .u8 x.lv]
def rIds (l : List RItem) (lv : Int) : List Int := (l.filter (fun x => decide (x.lv = lv))).map RItem.id

theorem last_snoc (X : List Int) (e d : Int) : (X ++ [e]).getLastD d = e := by simp

structure BQ where
  ahead : Int → Int
  behind : Int → Int
  lv : Int → Int
  there : Int → Bool
  first : Int → Int
  last : Int → Int
  mask : Int → Bool
  many : Int

/-- A run of linked ids: what stands ahead of the first, what behind the last. -/
def Seg (q : BQ) : Int → List Int → Int → Prop
  | _, [], _ => True
  | p, a :: t, nx => q.ahead a = p ∧ q.behind a = t.headD nx ∧ Seg q a t nx

theorem Seg.congr {q q' : BQ} : ∀ {s : List Int} {p nx : Int}, (∀ a ∈ s, q'.ahead a = q.ahead a ∧ q'.behind a = q.behind a) → Seg q p s nx → Seg q' p s nx
  | [], _, _, _, _ => trivial
  | a :: t, p, nx, h, ⟨h1, h2, h3⟩ => by
    obtain ⟨g1, g2⟩ := h a (by simp)
    exact ⟨g1.trans h1, g2.trans h2, Seg.congr (fun b hb => h b (by simp [hb])) h3⟩

theorem Seg.append {q : BQ} : ∀ {A B : List Int} {p nx : Int}, Seg q p (A ++ B) nx ↔ Seg q p A (B.headD nx) ∧ Seg q (A.getLastD p) B nx
  | [], B, p, nx => by simp [Seg]
  | a :: A, B, p, nx => by
    have ih := Seg.append (q := q) (A := A) (B := B) (p := a) (nx := nx)
    simp only [List.cons_append, Seg, ih]
    have h1 : (A ++ B).headD nx = A.headD (B.headD nx) := by cases A <;> simp
    have h2 : (a :: A).getLastD p = A.getLastD a := by cases A <;> simp [List.getLastD]
    rw [h1, h2]
    constructor
    · rintro ⟨a1, a2, a3, a4⟩; exact ⟨⟨a1, a2, a3⟩, a4⟩
    · rintro ⟨⟨a1, a2, a3⟩, a4⟩; exact ⟨a1, a2, a3, a4⟩

/-- Another id behind the last one. -/
theorem Seg.next {q q' : BQ} {s : List Int} {p nx nx' : Int} (h : Seg q p s nx) (hnd : s.Nodup) (ha : ∀ a ∈ s, q'.ahead a = q.ahead a) (hb : ∀ a ∈ s, a ≠ s.getLastD p → q'.behind a = q.behind a) (hl : s ≠ [] → q'.behind (s.getLastD p) = nx') : Seg q' p s nx' := by
  rcases List.eq_nil_or_concat s with rfl | ⟨t, e, rfl⟩
  · trivial
  · rw [List.concat_eq_append] at *
    have hlast : (t ++ [e]).getLastD p = e := by simp
    rw [hlast] at hb hl
    obtain ⟨h1, h2⟩ := Seg.append.1 h
    have hne : ∀ a ∈ t, a ≠ e := fun a hat hae => by
      rw [List.nodup_append] at hnd
      exact hnd.2.2 a hat e (by simp) hae
    refine Seg.append.2 ⟨?_, ?_⟩
    · exact h1.congr fun a hat => ⟨ha a (by simp [hat]), hb a (by simp [hat]) (hne a hat)⟩
    · obtain ⟨g1, g2, g3⟩ := h2
      exact ⟨(ha e (by simp)).trans g1, by simpa using hl (by simp), trivial⟩

/-- Another id ahead of the first one. -/
theorem Seg.prev {q q' : BQ} {s : List Int} {p p' nx : Int} (h : Seg q p s nx) (hnd : s.Nodup) (hb : ∀ a ∈ s, q'.behind a = q.behind a) (ha : ∀ a ∈ s, a ≠ s.headD nx → q'.ahead a = q.ahead a) (hl : s ≠ [] → q'.ahead (s.headD nx) = p') : Seg q' p' s nx := by
  cases s with
  | nil => trivial
  | cons a t =>
    obtain ⟨h1, h2, h3⟩ := h
    refine ⟨by simpa using hl (by simp), (hb a (by simp)).trans h2, h3.congr fun b hbt => ⟨ha b (by simp [hbt]) ?_, hb b (by simp [hbt])⟩⟩
    intro e
    simp at e
    subst e
    simp at hnd
    exact hnd.1 hbt

structure RI (q : BQ) (n : Nat) (l : List RItem) : Prop where
  nodup : (l.map RItem.id).Nodup
  range : ∀ x ∈ l, (0 ≤ x.id ∧ x.id < n) ∧ (0 ≤ x.lv ∧ x.lv ≤ 255)
  there : ∀ i : Int, 0 ≤ i → i < n → (q.there i = true ↔ i ∈ l.map RItem.id)
  level : ∀ x ∈ l, q.lv x.id = x.lv
  seg : ∀ v, 0 ≤ v → v ≤ 255 → Seg q (-1) (rIds l v) (-1) ∧ q.first v = (rIds l v).headD (-1) ∧ q.last v = (rIds l v).getLastD (-1)
  mask : ∀ v, 0 ≤ v → v ≤ 255 → (q.mask v = true ↔ rIds l v ≠ [])
  many : q.many = l.length

theorem mem_rIds {l : List RItem} {v a : Int} : a ∈ rIds l v ↔ ∃ x ∈ l, x.lv = v ∧ x.id = a := by
  simp [rIds, and_assoc]
theorem rIds_nodup {l : List RItem} (h : (l.map RItem.id).Nodup) (v : Int) : (rIds l v).Nodup := by
  unfold rIds
  exact (List.Sublist.map RItem.id (List.filter_sublist (l := l))).nodup h
theorem id_inj {l : List RItem} (h : (l.map RItem.id).Nodup) {x y : RItem} (hx : x ∈ l) (hy : y ∈ l) (e : x.id = y.id) : x = y := by
  obtain ⟨i, hi, rfl⟩ := List.getElem_of_mem hx
  obtain ⟨j, hj, rfl⟩ := List.getElem_of_mem hy
  have : i = j := nodup_inj h (by simpa using hi) (by simpa using hj) (by simpa using e)
  subst this
  rfl
theorem rIds_apart {l : List RItem} (h : (l.map RItem.id).Nodup) {u v a : Int} (hu : a ∈ rIds l u) (hv : a ∈ rIds l v) : u = v := by
  obtain ⟨x, hx, hxu, hxa⟩ := mem_rIds.1 hu
  obtain ⟨y, hy, hyv, hya⟩ := mem_rIds.1 hv
  have := id_inj h hx hy (hxa.trans hya.symm)
  subst this
  omega
theorem rIds_snoc (l : List RItem) (x : RItem) (v : Int) : rIds (l ++ [x]) v = rIds l v ++ (if x.lv = v then [x.id] else []) := by
  unfold rIds
  rw [List.filter_append, List.map_append]
  by_cases h : x.lv = v <;> simp [h]

/-- Push. -/
def BQ.push (q : BQ) (v id : Int) : BQ where
  ahead := upd q.ahead id (q.last v)
  behind := if q.last v = -1 then upd q.behind id (-1) else upd (upd q.behind id (-1)) (q.last v) id
  lv := upd q.lv id v
  there := upd q.there id true
  first := if q.last v = -1 then upd q.first v id else q.first
  last := upd q.last v id
  mask := if q.last v = -1 then upd q.mask v true else q.mask
  many := q.many + 1

theorem last_mem {l : List RItem} {v : Int} (h : rIds l v ≠ []) : (rIds l v).getLastD (-1) ∈ rIds l v := by
  rcases List.eq_nil_or_concat (rIds l v) with h0 | ⟨t, e, h0⟩
  · exact absurd h0 h
  · rw [h0]; simp
theorem head_mem {l : List RItem} {v : Int} (h : rIds l v ≠ []) : (rIds l v).headD (-1) ∈ rIds l v := by
  cases h0 : rIds l v with
  | nil => exact absurd h0 h
  | cons a t => simp

theorem RI.ids_nonneg {q : BQ} {n : Nat} {l : List RItem} (h : RI q n l) {v a : Int} (ha : a ∈ rIds l v) : 0 ≤ a ∧ a < n := by
  obtain ⟨x, hx, _, rfl⟩ := mem_rIds.1 ha
  exact (h.range x hx).1
theorem RI.lastEmpty {q : BQ} {n : Nat} {l : List RItem} (h : RI q n l) {v : Int} (h0 : 0 ≤ v) (h1 : v ≤ 255) : q.last v = -1 ↔ rIds l v = [] := by
  obtain ⟨_, _, h2⟩ := h.seg v h0 h1
  constructor
  · intro e
    rcases Classical.em (rIds l v = []) with h3 | h3
    · exact h3
    · have := (h.ids_nonneg (last_mem h3)).1
      omega
  · intro e; rw [h2, e]; rfl

theorem RI.push {q : BQ} {n : Nat} {l : List RItem} (h : RI q n l) {v id : Int} (h0 : 0 ≤ v) (h1 : v ≤ 255) (hi0 : 0 ≤ id) (hi1 : id < n) (hnew : id ∉ l.map RItem.id) : RI (q.push v id) n (l ++ [⟨id, v⟩]) := by
  have hnotin : ∀ u, id ∉ rIds l u := fun u hu => by
    obtain ⟨x, hx, _, hxa⟩ := mem_rIds.1 hu
    exact hnew (List.mem_map.2 ⟨x, hx, hxa⟩)
  have hemp := h.lastEmpty h0 h1
  have hahead : (q.push v id).ahead = upd q.ahead id (q.last v) := rfl
  have hbeh : (q.push v id).behind = if q.last v = -1 then upd q.behind id (-1) else upd (upd q.behind id (-1)) (q.last v) id := rfl
  have hbehind : ∀ a, a ≠ id → (a ≠ q.last v ∨ q.last v = -1) → (q.push v id).behind a = q.behind a := fun a ha hl => by
    rw [hbeh]
    split
    · exact upd_ne _ _ ha
    · rename_i hne
      rw [upd_ne _ _ (hl.resolve_right hne), upd_ne _ _ ha]
  have hfirst : ∀ u, (q.push v id).first u = if q.last v = -1 then upd q.first v id u else q.first u := fun u => by
    show (if _ then _ else _ : Int → Int) u = _
    split <;> rfl
  have hlast : (q.push v id).last = upd q.last v id := rfl
  have hmask : ∀ u, (q.push v id).mask u = if q.last v = -1 then upd q.mask v true u else q.mask u := fun u => by
    show (if _ then _ else _ : Int → Bool) u = _
    split <;> rfl
  refine ⟨?_, ?_, ?_, ?_, ?_, ?_, ?_⟩
  · rw [List.map_append, List.nodup_append]
    refine ⟨h.nodup, by simp, ?_⟩
    intro a ha b hb e
    simp at hb
    subst hb e
    exact hnew ha
  · intro x hx
    rcases List.mem_append.1 hx with hx | hx
    · exact h.range x hx
    · simp at hx; subst hx; exact ⟨⟨hi0, hi1⟩, h0, h1⟩
  · intro i g0 g1
    have : (q.push v id).there = upd q.there id true := rfl
    rw [this, List.map_append, List.mem_append]
    by_cases e : i = id
    · subst e; simp [upd_same]
    · rw [upd_ne _ _ e, h.there i g0 g1]; simp [e]
  · intro x hx
    have : (q.push v id).lv = upd q.lv id v := rfl
    rw [this]
    rcases List.mem_append.1 hx with hx | hx
    · have hne : x.id ≠ id := fun e => hnew (List.mem_map.2 ⟨x, hx, e⟩)
      rw [upd_ne _ _ hne]; exact h.level x hx
    · simp at hx; subst hx; exact upd_same _ _ _
  · intro u g0 g1
    obtain ⟨s1, s2, s3⟩ := h.seg u g0 g1
    rw [rIds_snoc, hlast, hfirst]
    by_cases huv : v = u
    · subst huv
      simp only [if_true, upd_same]
      have hnd := rIds_nodup h.nodup v
      by_cases hne : rIds l v = []
      · have hl := hemp.2 hne
        rw [hne, if_pos hl]
        refine ⟨?_, by simp [], by simp⟩
        refine ⟨by rw [hahead, upd_same, hl], ?_, trivial⟩
        show (q.push v id).behind id = -1
        rw [hbeh, if_pos hl]
        exact upd_same _ _ _
      · have hl : ¬ q.last v = -1 := fun e => hne (hemp.1 e)
        have hlm := last_mem hne
        rw [if_neg hl]
        refine ⟨?_, ?_, by simp⟩
        · refine Seg.append.2 ⟨?_, ?_⟩
          · refine s1.next hnd (fun a ha => ?_) (fun a ha hal => ?_) (fun _ => ?_)
            · rw [hahead]; exact upd_ne _ _ fun e => hnotin v (e ▸ ha)
            · exact hbehind a (fun e => hnotin v (e ▸ ha)) (.inl (by rw [s3]; exact hal))
            · show (q.push v id).behind _ = id
              rw [← s3]
              rw [hbeh, if_neg hl]
              exact upd_same _ _ _
          · refine ⟨by rw [hahead, upd_same, s3], ?_, trivial⟩
            show (q.push v id).behind id = -1
            have hid : id ≠ q.last v := fun e => hnotin v (by rw [e, s3]; exact hlm)
            rw [hbeh, if_neg hl]
            rw [upd_ne _ _ hid, upd_same]
        · rw [s2]
          cases hr : rIds l v with
          | nil => exact absurd hr hne
          | cons a t => simp
    · simp only [huv, if_false, List.append_nil]
      have huv' : u ≠ v := fun e => huv e.symm
      rw [upd_ne q.last _ huv']
      have hl : ∀ a ∈ rIds l u, a ≠ q.last v ∨ q.last v = -1 := fun a ha => by
        by_cases e : q.last v = -1
        · exact .inr e
        · refine .inl fun e2 => ?_
          have hne : rIds l v ≠ [] := fun h3 => e (hemp.2 h3)
          have hlm := last_mem hne
          obtain ⟨_, _, s3'⟩ := h.seg v h0 h1
          rw [← s3', ← e2] at hlm
          exact huv' (rIds_apart h.nodup ha hlm)
      refine ⟨s1.congr fun a ha => ⟨?_, hbehind a (fun e => hnotin u (e ▸ ha)) (hl a ha)⟩, ?_, s3⟩
      · rw [hahead]; exact upd_ne _ _ fun e => hnotin u (e ▸ ha)
      · split
        · rw [upd_ne _ _ huv']; exact s2
        · exact s2
  · intro u g0 g1
    rw [rIds_snoc, hmask]
    by_cases huv : v = u
    · subst huv
      simp only [if_true]
      have hr : rIds l v ++ [id] ≠ [] := by simp
      simp only [hr, not_false_eq_true, iff_true, ne_eq]
      split
      · exact upd_same _ _ _
      · rename_i hl
        exact (h.mask v h0 h1).2 fun h3 => hl (hemp.2 h3)
    · have huv' : u ≠ v := fun e => huv e.symm
      simp only [huv, if_false, List.append_nil]
      rw [← h.mask u g0 g1]
      split
      · rw [upd_ne _ _ huv']
      · rfl
  · have : (q.push v id).many = q.many + 1 := rfl
    rw [this, h.many]; simp

/-- Remove. -/
def BQ.rem (q : BQ) (id : Int) : BQ where
  ahead := upd (if q.behind id = -1 then q.ahead else upd q.ahead (q.behind id) (q.ahead id)) id 0
  behind := upd (if q.ahead id = -1 then q.behind else upd q.behind (q.ahead id) (q.behind id)) id 0
  lv := upd q.lv id 0
  there := upd q.there id false
  first := if q.ahead id = -1 then upd q.first (q.lv id) (q.behind id) else q.first
  last := if q.behind id = -1 then upd q.last (q.lv id) (q.ahead id) else q.last
  mask := if (if q.ahead id = -1 then upd q.first (q.lv id) (q.behind id) else q.first) (q.lv id) = -1 then upd q.mask (q.lv id) false else q.mask
  many := q.many - 1

def rWithout (l : List RItem) (id : Int) : List RItem := l.filter (fun x => decide (x.id ≠ id))
theorem rIds_without (l : List RItem) (id v : Int) : rIds (rWithout l id) v = (rIds l v).filter (fun a => decide (a ≠ id)) := by
  unfold rIds rWithout
  rw [List.filter_filter, List.filter_map, List.filter_filter]
  congr 1
  apply List.filter_congr
  intro x _
  simp [Function.comp, Bool.and_comm]
theorem RI.lenLe {q : BQ} {n : Nat} {l : List RItem} (h : RI q n l) : l.length ≤ n := by
  have := nodup_bound n (l.map RItem.id) h.nodup (fun a ha => by
    obtain ⟨x, hx, rfl⟩ := List.mem_map.1 ha
    exact (h.range x hx).1)
  simpa using this

theorem one_of {α : Type} {l : List α} {y : α} (hn : l.Nodup) (hy : y ∈ l) (h : ∀ x ∈ l, x = y) : l = [y] := by
  match l, hn, hy, h with
  | [], _, hy, _ => simp at hy
  | [a], _, _, h => rw [h a (by simp)]
  | a :: b :: t, hn, _, h =>
    have e2 : a = b := (h a (by simp)).trans (h b (by simp)).symm
    subst e2
    simp at hn

theorem RI.rem {q : BQ} {n : Nat} {l : List RItem} (h : RI q n l) {y : RItem} (hy : y ∈ l) : RI (q.rem y.id) n (rWithout l y.id) := by
  obtain ⟨⟨hid0, hid1⟩, h0, h1⟩ := h.range y hy
  have hlv := h.level y hy
  generalize hid : y.id = id at *
  generalize hv : y.lv = v at *
  have hmem : id ∈ rIds l v := mem_rIds.2 ⟨y, hy, hv, hid⟩
  have hnd := rIds_nodup h.nodup v
  obtain ⟨A, B, hAB⟩ := List.append_of_mem hmem
  obtain ⟨s1, s2, s3⟩ := h.seg v h0 h1
  have hnn : ∀ a ∈ rIds l v, 0 ≤ a := fun a ha => (h.ids_nonneg ha).1
  have hfl := filter_ne_split (hAB ▸ hnd)
  rw [hAB] at s1 s2 s3 hnn
  have hndAB := hnd
  rw [hAB] at hndAB
  obtain ⟨t1, t2⟩ := Seg.append.1 s1
  obtain ⟨ha, hb, t3⟩ := t2
  simp only [List.headD_cons] at t1
  have hnda : A.Nodup := (List.nodup_append.1 hndAB).1
  have hndb : B.Nodup := (List.nodup_cons.1 (List.nodup_append.1 hndAB).2.1).2
  have hidA : id ∉ A := fun hm => (List.nodup_append.1 hndAB).2.2 id hm id (by simp) rfl
  have hidB : id ∉ B := (List.nodup_cons.1 (List.nodup_append.1 hndAB).2.1).1
  have hAB' : ∀ a ∈ A, a ∉ B := fun a haA haB => (List.nodup_append.1 hndAB).2.2 a haA a (by simp [haB]) rfl
  have hae : q.ahead id = -1 ↔ A = [] := by
    rw [ha]
    constructor
    · intro e
      rcases List.eq_nil_or_concat A with h3 | ⟨t, e2, h3⟩
      · exact h3
      · subst h3
        simp at e
        have := hnn e2 (by simp)
        omega
    · rintro rfl; rfl
  have hbe : q.behind id = -1 ↔ B = [] := by
    rw [hb]
    constructor
    · intro e
      cases B with
      | nil => rfl
      | cons b t =>
        simp at e
        have := hnn b (by simp)
        omega
    · rintro rfl; rfl
  have lastA : A ≠ [] → A.getLastD (-1) ∈ A := fun hne => by
    rcases List.eq_nil_or_concat A with h3 | ⟨t, e2, h3⟩
    · exact absurd h3 hne
    · subst h3; simp
  have headB : B ≠ [] → B.headD (-1) ∈ B := fun hne => by
    cases B with
    | nil => exact absurd rfl hne
    | cons b t => simp
  -- the parts of the new state
  have nAhead : ∀ a, a ≠ id → (q.rem id).ahead a = if q.behind id = -1 then q.ahead a else upd q.ahead (q.behind id) (q.ahead id) a := fun a hne => by
    show upd _ id 0 a = _
    rw [upd_ne _ _ hne]
    split <;> rfl
  have nBehind : ∀ a, a ≠ id → (q.rem id).behind a = if q.ahead id = -1 then q.behind a else upd q.behind (q.ahead id) (q.behind id) a := fun a hne => by
    show upd _ id 0 a = _
    rw [upd_ne _ _ hne]
    split <;> rfl
  have nFirst : (q.rem id).first = if q.ahead id = -1 then upd q.first (q.lv id) (q.behind id) else q.first := rfl
  have nLast : (q.rem id).last = if q.behind id = -1 then upd q.last (q.lv id) (q.ahead id) else q.last := rfl
  have nMask : ∀ u, (q.rem id).mask u = if (q.rem id).first (q.lv id) = -1 then upd q.mask (q.lv id) false u else q.mask u := fun u => by
    show (if (if q.ahead id = -1 then upd q.first (q.lv id) (q.behind id) else q.first) (q.lv id) = -1 then upd q.mask (q.lv id) false else q.mask) u = if (if q.ahead id = -1 then upd q.first (q.lv id) (q.behind id) else q.first) (q.lv id) = -1 then upd q.mask (q.lv id) false u else q.mask u
    exact apply_ite (fun f : Int → Bool => f u) _ _ _
  have nThere : (q.rem id).there = upd q.there id false := rfl
  have nLv : (q.rem id).lv = upd q.lv id 0 := rfl
  have nMany : (q.rem id).many = q.many - 1 := rfl
  have hsub : ∀ x, x ∈ rWithout l id ↔ x ∈ l ∧ x.id ≠ id := fun x => by simp [rWithout]
  have notin : ∀ u, u ≠ v → id ∉ rIds l u := fun u hu hm => hu (rIds_apart h.nodup hm hmem)
  -- the run of this level
  have hsegv : Seg (q.rem id) (-1) (A ++ B) (-1) := by
    refine Seg.append.2 ⟨?_, ?_⟩
    · refine t1.next hnda (fun a haA => ?_) (fun a haA hal => ?_) (fun hne => ?_)
      · rw [nAhead a (fun e => hidA (e ▸ haA))]
        split
        · rfl
        · rename_i e2
          refine upd_ne _ _ fun e => ?_
          have hBne : B ≠ [] := fun h3 => e2 (hbe.2 h3)
          exact hAB' a haA (by rw [e, hb]; exact headB hBne)
      · rw [nBehind a (fun e => hidA (e ▸ haA))]
        split
        · rfl
        · exact upd_ne _ _ fun e => hal (by rw [e, ha])
      · have hal := lastA hne
        rw [nBehind _ (fun e => hidA (e ▸ hal)), if_neg (fun e => hne (hae.1 e)), ← ha, upd_same, hb]
    · refine t3.prev hndb (fun a haB => ?_) (fun a haB hah => ?_) (fun hne => ?_)
      · rw [nBehind a (fun e => hidB (e ▸ haB))]
        split
        · rfl
        · rename_i e1
          refine upd_ne _ _ fun e => ?_
          have hAne : A ≠ [] := fun h3 => e1 (hae.2 h3)
          exact hAB' a (by rw [e, ha]; exact lastA hAne) haB
      · rw [nAhead a (fun e => hidB (e ▸ haB))]
        split
        · rfl
        · exact upd_ne _ _ fun e => hah (by rw [e, hb])
      · have hbh := headB hne
        rw [nAhead _ (fun e => hidB (e ▸ hbh)), if_neg (fun e => hne (hbe.1 e)), ← hb, upd_same, ha]
  have hfirstv : (q.rem id).first v = (A ++ B).headD (-1) := by
    rw [nFirst, hlv]
    by_cases e : A = []
    · subst e; rw [if_pos (hae.2 rfl), upd_same, hb]; rfl
    · rw [if_neg (fun e1 => e (hae.1 e1)), s2]
      cases A with
      | nil => exact absurd rfl e
      | cons a t => rfl
  have hlastv : (q.rem id).last v = (A ++ B).getLastD (-1) := by
    rw [nLast, hlv]
    by_cases e : B = []
    · subst e; rw [if_pos (hbe.2 rfl), upd_same, ha, List.append_nil]
    · rw [if_neg (fun e1 => e (hbe.1 e1)), s3]
      rcases List.eq_nil_or_concat B with h3 | ⟨t, e2, h3⟩
      · exact absurd h3 e
      · subst h3
        rw [List.concat_eq_append, show A ++ id :: (t ++ [e2]) = (A ++ id :: t) ++ [e2] by simp, last_snoc, ← List.append_assoc, last_snoc]
  have hBnn : (A ++ B).headD (-1) = -1 ↔ A ++ B = [] := by
    cases hc : A ++ B with
    | nil => simp
    | cons c t =>
      have : c ∈ A ++ B := by rw [hc]; simp
      have hc0 : 0 ≤ c := by
        rcases List.mem_append.1 this with h3 | h3
        · exact hnn c (by simp [h3])
        · exact hnn c (by simp [h3])
      simp
      omega
  refine ⟨?_, ?_, ?_, ?_, ?_, ?_, ?_⟩
  · exact (List.Sublist.map RItem.id (List.filter_sublist (l := l))).nodup h.nodup
  · intro x hx
    exact h.range x ((hsub x).1 hx).1
  · intro i g0 g1
    rw [nThere]
    by_cases e : i = id
    · subst e
      simp only [upd_same, Bool.false_eq_true, List.mem_map, hsub, false_iff, not_exists, not_and, and_imp]
      exact fun x _ hne e => hne e
    · rw [upd_ne _ _ e, h.there i g0 g1]
      simp only [List.mem_map, hsub]
      constructor
      · rintro ⟨x, hx, rfl⟩; exact ⟨x, ⟨hx, e⟩, rfl⟩
      · rintro ⟨x, ⟨hx, _⟩, rfl⟩; exact ⟨x, hx, rfl⟩
  · intro x hx
    obtain ⟨hxl, hne⟩ := (hsub x).1 hx
    rw [nLv, upd_ne _ _ hne]
    exact h.level x hxl
  · intro u g0 g1
    rw [rIds_without]
    by_cases huv : u = v
    · subst huv
      rw [hAB, hfl]
      exact ⟨hsegv, hfirstv, hlastv⟩
    · have hni := notin u huv
      rw [filter_ne_of_notin hni]
      obtain ⟨u1, u2, u3⟩ := h.seg u g0 g1
      refine ⟨u1.congr fun a hau => ⟨?_, ?_⟩, ?_, ?_⟩
      · rw [nAhead a (fun e => hni (e ▸ hau))]
        split
        · rfl
        · rename_i e2
          refine upd_ne _ _ fun e => ?_
          have hBne : B ≠ [] := fun h3 => e2 (hbe.2 h3)
          refine huv (rIds_apart h.nodup hau ?_)
          rw [hAB, e, hb]; exact List.mem_append_right _ (List.mem_cons_of_mem _ (headB hBne))
      · rw [nBehind a (fun e => hni (e ▸ hau))]
        split
        · rfl
        · rename_i e1
          refine upd_ne _ _ fun e => ?_
          have hAne : A ≠ [] := fun h3 => e1 (hae.2 h3)
          refine huv (rIds_apart h.nodup hau ?_)
          rw [hAB, e, ha]; exact List.mem_append_left _ (lastA hAne)
      · rw [nFirst, hlv]
        split
        · rw [upd_ne _ _ huv]; exact u2
        · exact u2
      · rw [nLast, hlv]
        split
        · rw [upd_ne _ _ huv]; exact u3
        · exact u3
  · intro u g0 g1
    rw [rIds_without, nMask, hlv, hfirstv]
    by_cases huv : u = v
    · subst huv
      rw [hAB, hfl]
      split
      · rename_i e; rw [upd_same, hBnn.1 e]; simp
      · rename_i e
        rw [hBnn] at e
        simp only [ne_eq, e, not_false_eq_true, iff_true]
        exact (h.mask u g0 g1).2 (by rw [hAB]; simp)
    · rw [filter_ne_of_notin (notin u huv), ← h.mask u g0 g1]
      split
      · rw [upd_ne _ _ huv]
      · rfl
  · rw [nMany, h.many]
    have : (rWithout l id).length + 1 = l.length := by
      have hc : l.length = (rWithout l id).length + (l.filter (fun x => !decide (x.id ≠ id))).length := by
        rw [rWithout, ← List.countP_eq_length_filter, ← List.countP_eq_length_filter]
        have := List.length_eq_countP_add_countP (fun x : RItem => decide (x.id ≠ id)) (l := l)
        simpa using this
      have h1 : (l.filter (fun x => !decide (x.id ≠ id))).length = 1 := by
        have e1 : l.filter (fun x => !decide (x.id ≠ id)) = [y] := by
          have hin : ∀ x ∈ l.filter (fun x => !decide (x.id ≠ id)), x = y := fun x hx => by
            simp at hx
            exact id_inj h.nodup hx.1 hy (hx.2.trans hid.symm)
          have hyin : y ∈ l.filter (fun x => !decide (x.id ≠ id)) := by simp [hy, hid]
          have hnd2 : (l.filter (fun x => !decide (x.id ≠ id))).Nodup := by
            have : ((l.filter (fun x => !decide (x.id ≠ id))).map RItem.id).Nodup := (List.Sublist.map RItem.id (List.filter_sublist (l := l))).nodup h.nodup
            exact List.Pairwise.of_map _ (fun a b hab e => hab (by rw [e])) this
          exact one_of hnd2 hyin hin
        rw [e1]; rfl
      omega
    omega
end Go.Proofs

/- What the reference queue of layer 2 tells, as functions of a list. No program stands here. -/
namespace Go.Proofs
open Go Go.Gx

def ratFrom : List RItem → Int → Int → Int
  | [], _, _ => -1
  | x :: xs, id, k => if x.id = id then k else ratFrom xs id (k + 1)
def rat (l : List RItem) (id : Int) : Int := ratFrom l id 0

/-- The place of the first one of the highest level, from place k on, with what was best so far. -/
def rtopFrom : List RItem → Int → Int → Int → Int
  | [], _, at', _ => at'
  | x :: xs, k, at', lv => if at' < 0 ∨ x.lv > lv then rtopFrom xs (k + 1) k x.lv else rtopFrom xs (k + 1) at' lv
def rtop (l : List RItem) : Int := rtopFrom l 0 (-1) 0

theorem rtopFrom_range (l : List RItem) : ∀ (k at' lv : Int), -1 ≤ at' → at' < k ∨ at' = -1 → 0 ≤ k → -1 ≤ rtopFrom l k at' lv ∧ (rtopFrom l k at' lv < k + l.length ∨ rtopFrom l k at' lv = -1) ∧ (0 ≤ at' ∨ l ≠ [] → 0 ≤ rtopFrom l k at' lv) := by
  induction l with
  | nil => intro k a lv h1 h2 h3; simp only [rtopFrom, List.length_nil]; exact ⟨h1, by omega, fun h => by rcases h with h | h; exact h; exact absurd rfl h⟩
  | cons x l ih =>
    intro k a lv h1 h2 h3
    simp only [rtopFrom, List.length_cons]
    split
    · obtain ⟨g1, g2, g3⟩ := ih (k + 1) k x.lv (by omega) (by omega) (by omega)
      exact ⟨g1, by omega, fun _ => g3 (.inl h3)⟩
    · rename_i hn
      obtain ⟨g1, g2, g3⟩ := ih (k + 1) a lv h1 (by omega) (by omega)
      exact ⟨g1, by omega, fun _ => g3 (.inl (by omega))⟩
theorem rtop_range (l : List RItem) : -1 ≤ rtop l ∧ rtop l < l.length ∧ (l ≠ [] → 0 ≤ rtop l) := by
  obtain ⟨h1, h2, h3⟩ := rtopFrom_range l 0 (-1) 0 (by omega) (by omega) (by omega)
  refine ⟨h1, ?_, fun h => h3 (.inr h)⟩
  unfold rtop
  omega
theorem ratFrom_range (l : List RItem) (id : Int) : ∀ (k : Int), 0 ≤ k → -1 ≤ ratFrom l id k ∧ (ratFrom l id k = -1 ∨ (k ≤ ratFrom l id k ∧ ratFrom l id k < k + l.length)) := by
  induction l with
  | nil => intro k h; simp [ratFrom]
  | cons x l ih =>
    intro k h
    simp only [ratFrom, List.length_cons]
    split
    · exact ⟨by omega, .inr (by omega)⟩
    · obtain ⟨h1, h2⟩ := ih (k + 1) (by omega)
      exact ⟨h1, by omega⟩
theorem rat_range (l : List RItem) (id : Int) : -1 ≤ rat l id ∧ rat l id < l.length := by
  obtain ⟨h1, h2⟩ := ratFrom_range l id 0 (by omega)
  unfold rat
  omega

def rget (l : List RItem) (i : Int) : RItem := (l[i.toNat]?).getD ⟨0, 0⟩
/-- What Top tells. -/
def rTop (l : List RItem) : Value := if rtop l < 0 then .tuple #[.int .u8 0, .int .i64 0, .bool false] else .tuple #[.int .u8 (rget l (rtop l)).lv, .int .i64 (rget l (rtop l)).id, .bool true]

def rLevel (l : List RItem) (id : Int) : Value := if rat l id < 0 then .tuple #[.int .u8 0, .bool false] else .tuple #[.int .u8 (rget l (rat l id)).lv, .bool true]
def rPushErr (l : List RItem) (n : Nat) (id : Int) : Int := if id < 0 ∨ id ≥ n then 2 else if rat l id ≥ 0 then 5 else 0
def rPush (l : List RItem) (n : Nat) (lv id : Int) : List RItem := if rPushErr l n id = 0 then l ++ [⟨id, lv⟩] else l
def rRemErr (l : List RItem) (n : Nat) (id : Int) : Int := if id < 0 ∨ id ≥ n then 2 else if rat l id < 0 then 6 else 0
def rRem (l : List RItem) (n : Nat) (id : Int) : List RItem := if rRemErr l n id = 0 then l.eraseIdx (rat l id).toNat else l
def rPop (l : List RItem) : List RItem := if rtop l < 0 then l else l.eraseIdx (rtop l).toNat
def topLv (l : List RItem) : Int := if rtop l < 0 then 0 else (rget l (rtop l)).lv
def topId (l : List RItem) : Int := if rtop l < 0 then 0 else (rget l (rtop l)).id
def topOk (l : List RItem) : Bool := decide (0 ≤ rtop l)
theorem rTop_eq (l : List RItem) : rTop l = .tuple #[.int .u8 (topLv l), .int .i64 (topId l), .bool (topOk l)] := by
  unfold rTop topLv topId topOk
  by_cases h : rtop l < 0
  · have h1 : ¬ 0 ≤ rtop l := by omega
    simp [h, h1]
  · have h1 : 0 ≤ rtop l := by omega
    simp [h, h1]
def levLv (l : List RItem) (id : Int) : Int := if rat l id < 0 then 0 else (rget l (rat l id)).lv
theorem rLevel_eq (l : List RItem) (id : Int) : rLevel l id = .tuple #[.int .u8 (levLv l id), .bool (decide (0 ≤ rat l id))] := by
  unfold rLevel levLv
  by_cases h : rat l id < 0
  · have h1 : ¬ 0 ≤ rat l id := by omega
    simp [h, h1]
  · have h1 : 0 ≤ rat l id := by omega
    simp [h, h1]
end Go.Proofs

/- What the reference queue tells, in words of the linked one. No program stands here but in the imports. -/
namespace Go.Proofs
open Go Go.Gx

theorem ratFrom_spec (id : Int) : ∀ (l : List RItem) (k : Int), (id ∉ l.map RItem.id ∧ ratFrom l id k = -1) ∨ ∃ (i : Nat) (hi : i < l.length), ratFrom l id k = k + i ∧ l[i].id = id := by
  intro l
  induction l with
  | nil => intro k; exact .inl ⟨by simp, rfl⟩
  | cons x l ih =>
    intro k
    simp only [ratFrom]
    by_cases h : x.id = id
    · rw [if_pos h]; exact .inr ⟨0, by simp, by simp, by simpa using h⟩
    · rw [if_neg h]
      rcases ih (k + 1) with ⟨h1, h2⟩ | ⟨i, hi, h1, h2⟩
      · refine .inl ⟨?_, h2⟩
        simp only [List.map_cons, List.mem_cons, not_or]
        exact ⟨fun e => h e.symm, h1⟩
      · exact .inr ⟨i + 1, by simp; omega, by omega, by simpa using h2⟩
theorem rat_spec (l : List RItem) (id : Int) : (id ∉ l.map RItem.id ∧ rat l id = -1) ∨ ∃ (i : Nat) (hi : i < l.length), rat l id = i ∧ l[i].id = id := by
  rcases ratFrom_spec id l 0 with h | ⟨i, hi, h1, h2⟩
  · exact .inl h
  · exact .inr ⟨i, hi, by unfold rat; omega, h2⟩
theorem rat_mem {l : List RItem} {id : Int} : 0 ≤ rat l id ↔ id ∈ l.map RItem.id := by
  rcases rat_spec l id with ⟨h1, h2⟩ | ⟨i, hi, h1, h2⟩
  · rw [h2]; simp only [h1, iff_false]; omega
  · rw [h1]; constructor
    · intro _; exact List.mem_map.2 ⟨l[i], List.getElem_mem _, h2⟩
    · intro _; omega
theorem rat_out {l : List RItem} (hn : (l.map RItem.id).Nodup) {id : Int} (h : 0 ≤ rat l id) : l.eraseIdx (rat l id).toNat = rWithout l id := by
  rcases rat_spec l id with ⟨h1, h2⟩ | ⟨i, hi, h1, h2⟩
  · omega
  · rw [h1, Int.toNat_natCast, List.eraseIdx_eq_take_drop_succ]
    have hl : l = l.take i ++ l[i] :: l.drop (i + 1) := by rw [← List.drop_eq_getElem_cons hi, List.take_append_drop]
    have hn' := hn
    rw [hl, List.map_append, List.map_cons, List.nodup_append, List.nodup_cons] at hn'
    obtain ⟨_, ⟨n1, _⟩, n2⟩ := hn'
    have hA : ∀ x ∈ l.take i, x.id ≠ id := fun x hx e => n2 x.id (List.mem_map.2 ⟨x, hx, rfl⟩) l[i].id (by simp) (e.trans h2.symm)
    have hB : ∀ x ∈ l.drop (i + 1), x.id ≠ id := fun x hx e => n1 (List.mem_map.2 ⟨x, hx, e.trans h2.symm⟩)
    have : rWithout l id = rWithout (l.take i ++ l[i] :: l.drop (i + 1)) id := by rw [← hl]
    rw [this]
    unfold rWithout
    rw [List.filter_append, List.filter_cons]
    simp only [h2, ne_eq, not_true, decide_false, Bool.false_eq_true, if_false]
    rw [List.filter_eq_self.2 (fun x hx => by simpa using hA x hx), List.filter_eq_self.2 (fun x hx => by simpa using hB x hx)]

theorem rat_get {l : List RItem} (hn : (l.map RItem.id).Nodup) {i : Nat} (hi : i < l.length) : rat l l[i].id = i := by
  rcases rat_spec l l[i].id with ⟨h1, _⟩ | ⟨j, hj, h1, h2⟩
  · exact absurd (List.mem_map.2 ⟨l[i], List.getElem_mem _, rfl⟩) h1
  · have : j = i := nodup_inj hn (by simpa using hj) (by simpa using hi) (by simpa using h2)
    rw [h1, this]

def Best (l : List RItem) (a lv : Int) : Prop := (l = [] ∧ a = -1) ∨ ∃ (i : Nat) (hi : i < l.length), a = i ∧ lv = l[i].lv ∧ ∀ (j : Nat) (hj : j < l.length), l[j].lv ≤ lv ∧ (j < i → l[j].lv < lv)
theorem Best.next {l : List RItem} {a lv : Int} (h : Best l a lv) (x : RItem) : Best (l ++ [x]) (if a < 0 ∨ x.lv > lv then l.length else a) (if a < 0 ∨ x.lv > lv then x.lv else lv) := by
  by_cases hc : a < 0 ∨ x.lv > lv
  · rw [if_pos hc, if_pos hc]
    refine .inr ⟨l.length, by simp, rfl, by simp, ?_⟩
    intro j hj
    simp only [List.length_append, List.length_singleton] at hj
    rcases h with ⟨rfl, _⟩ | ⟨i, hi, rfl, rfl, h⟩
    · simp at hj; subst hj; simp
    · have hc' : x.lv > l[i].lv := by omega
      by_cases e : j < l.length
      · rw [List.getElem_append_left e]
        have := (h j e).1
        exact ⟨by omega, fun _ => by omega⟩
      · have : j = l.length := by omega
        subst this
        simp
  · rw [if_neg hc, if_neg hc]
    rcases h with ⟨rfl, rfl⟩ | ⟨i, hi, rfl, rfl, h⟩
    · omega
    · refine .inr ⟨i, by simp; omega, rfl, by rw [List.getElem_append_left hi], ?_⟩
      intro j hj
      simp only [List.length_append, List.length_singleton] at hj
      by_cases e : j < l.length
      · rw [List.getElem_append_left e]; exact h j e
      · have : j = l.length := by omega
        subst this
        simp only [List.getElem_concat_length]
        exact ⟨by omega, fun _ => by omega⟩
theorem rtopFrom_spec : ∀ (l pre : List RItem) (a lv : Int), Best pre a lv → ∃ lv', Best (pre ++ l) (rtopFrom l pre.length a lv) lv' := by
  intro l
  induction l with
  | nil => intro pre a lv h; exact ⟨lv, by simpa [rtopFrom] using h⟩
  | cons x l ih =>
    intro pre a lv h
    have hb := h.next x
    simp only [rtopFrom]
    have e : pre ++ x :: l = (pre ++ [x]) ++ l := by simp
    rw [e]
    by_cases hc : a < 0 ∨ x.lv > lv
    · rw [if_pos hc] at hb ⊢
      rw [if_pos hc] at hb
      have := ih (pre ++ [x]) _ _ hb
      simpa using this
    · rw [if_neg hc] at hb ⊢
      rw [if_neg hc] at hb
      have := ih (pre ++ [x]) _ _ hb
      simpa using this
theorem rtop_spec (l : List RItem) : (l = [] ∧ rtop l = -1) ∨ ∃ (i : Nat) (hi : i < l.length), rtop l = i ∧ ∀ (j : Nat) (hj : j < l.length), l[j].lv ≤ l[i].lv ∧ (j < i → l[j].lv < l[i].lv) := by
  obtain ⟨lv, h⟩ := rtopFrom_spec l [] (-1) 0 (.inl ⟨rfl, rfl⟩)
  simp only [List.nil_append, List.length_nil] at h
  rcases h with ⟨h1, h2⟩ | ⟨i, hi, h1, rfl, h2⟩
  · exact .inl ⟨h1, h2⟩
  · exact .inr ⟨i, hi, h1, h2⟩

/-- Level and first id of what is on top, by the flags. -/
theorem rTop_hi {l : List RItem} {m : Int → Bool} {x : Int} (hx : IsHi m x) (hm : ∀ v, 0 ≤ v → v ≤ 255 → (m v = true ↔ rIds l v ≠ [])) (hr : ∀ y ∈ l, 0 ≤ y.lv ∧ y.lv ≤ 255) :
    (x < 0 → l = [] ∧ rtop l = -1) ∧ (0 ≤ x → 0 ≤ rtop l ∧ x ≤ 255 ∧ (rget l (rtop l)).lv = x ∧ (rIds l x).headD (-1) = (rget l (rtop l)).id ∧ rIds l x ≠ []) := by
  rcases rtop_spec l with ⟨rfl, h2⟩ | ⟨i, hi, h1, h2⟩
  · refine ⟨fun _ => ⟨rfl, h2⟩, fun h0 => ?_⟩
    rcases hx.1 with h | ⟨a, b, c⟩
    · omega
    · exact absurd rfl ((hm x a b).1 c)
  · have hmem : l[i] ∈ l := List.getElem_mem _
    have hlv := hr _ hmem
    have hin : rIds l l[i].lv ≠ [] := fun e => by
      have : l[i].id ∈ rIds l l[i].lv := mem_rIds.2 ⟨l[i], hmem, rfl, rfl⟩
      rw [e] at this; cases this
    have hix : IsHi m l[i].lv := by
      refine ⟨.inr ⟨hlv.1, hlv.2, (hm _ hlv.1 hlv.2).2 hin⟩, fun v g0 g1 g2 => ?_⟩
      have : ¬ m v = true := fun e => by
        have hne := (hm v g1 g2).1 e
        obtain ⟨y, hy, hyv, _⟩ := mem_rIds.1 (head_mem hne)
        obtain ⟨j, hj, rfl⟩ := List.getElem_of_mem hy
        have := (h2 j hj).1
        omega
      simpa using this
    have := hx.uniq hix
    subst this
    refine ⟨fun h => by omega, fun _ => ?_⟩
    have hg : rget l (rtop l) = l[i] := by
      rw [h1]; unfold rget; simp [hi]
    rw [hg]
    refine ⟨by omega, hlv.2, rfl, ?_, hin⟩
    have hl : l = l.take i ++ l[i] :: l.drop (i + 1) := by rw [← List.drop_eq_getElem_cons hi, List.take_append_drop]
    have hA : ∀ y ∈ l.take i, ¬ y.lv = l[i].lv := fun y hy e => by
      obtain ⟨j, hj, rfl⟩ := List.getElem_of_mem hy
      simp only [List.length_take] at hj
      have := (h2 j (by omega)).2 (by omega)
      rw [List.getElem_take] at e
      omega
    have : rIds l l[i].lv = rIds (l.take i ++ l[i] :: l.drop (i + 1)) l[i].lv := by rw [← hl]
    rw [this]
    unfold rIds
    rw [List.filter_append, List.filter_eq_nil_iff.2 (fun y hy => by simpa using hA y hy), List.filter_cons]
    simp
end Go.Proofs

/- What is ready, as a queue of levels and a heap of deadlines hold it: both together stand for one list in order. No program stands here. -/
namespace Go.Proofs
open Go Go.Gx

def kE (x : KItem) : Bool := x.k.edf
def kL (v : Int) (x : KItem) : Bool := !x.k.edf && decide (x.k.lv = v)
def kN (x : KItem) : Bool := !x.k.edf

structure RdI (n : Nat) (l : List KItem) (lq : List RItem) (lh : List PItem) (seq : Int) : Prop where
  ok : KOk n l
  heap : lh.map (fun x => (x.id, x.dl)) = (l.filter kE).map fun x => (x.id, x.k.dl)
  seqs : ∀ x ∈ lh, x.sq ≤ seq
  queue : ∀ v, rIds lq v = (l.filter (kL v)).map KItem.id
  qlen : lq.length = (l.filter kN).length

variable {n : Nat} {l : List KItem} {lq : List RItem} {lh : List PItem} {seq : Int}
theorem RdI.hIds (h : RdI n l lq lh seq) : pIds lh = kIds (l.filter kE) := by
  have := congrArg (List.map Prod.fst) h.heap
  rw [List.map_map, List.map_map] at this
  exact this
theorem RdI.hmem (h : RdI n l lq lh seq) {id : Int} : id ∈ pIds lh ↔ ∃ x ∈ l, x.k.edf = true ∧ x.id = id := by
  rw [h.hIds, kIds, List.mem_map]
  constructor
  · rintro ⟨x, hx, e⟩
    obtain ⟨a, b⟩ := List.mem_filter.1 hx
    exact ⟨x, a, b, e⟩
  · rintro ⟨x, hx, a, e⟩
    exact ⟨x, List.mem_filter.2 ⟨hx, a⟩, e⟩
theorem RdI.qmem (h : RdI n l lq lh seq) {id : Int} : id ∈ lq.map RItem.id ↔ ∃ x ∈ l, x.k.edf = false ∧ x.id = id := by
  constructor
  · intro hm
    obtain ⟨y, hy, rfl⟩ := List.mem_map.1 hm
    have : y.id ∈ rIds lq y.lv := mem_rIds.2 ⟨y, hy, rfl, rfl⟩
    rw [h.queue] at this
    obtain ⟨x, hx, e⟩ := List.mem_map.1 this
    obtain ⟨a, b⟩ := List.mem_filter.1 hx
    simp only [kL, Bool.and_eq_true, Bool.not_eq_eq_eq_not, Bool.not_true, decide_eq_true_eq] at b
    exact ⟨x, a, b.1, e⟩
  · rintro ⟨x, hx, a, rfl⟩
    have : x.id ∈ (l.filter (kL x.k.lv)).map KItem.id := List.mem_map.2 ⟨x, List.mem_filter.2 ⟨hx, by simp [kL, a]⟩, rfl⟩
    rw [← h.queue] at this
    obtain ⟨y, hy, _, e⟩ := mem_rIds.1 this
    exact List.mem_map.2 ⟨y, hy, e⟩
theorem RdI.mem (h : RdI n l lq lh seq) {id : Int} : id ∈ kIds l ↔ id ∈ pIds lh ∨ id ∈ lq.map RItem.id := by
  rw [h.hmem, h.qmem, kIds, List.mem_map]
  constructor
  · rintro ⟨x, hx, e⟩
    cases he : x.k.edf with
    | true => exact .inl ⟨x, hx, he, e⟩
    | false => exact .inr ⟨x, hx, he, e⟩
  · rintro (⟨x, hx, _, e⟩ | ⟨x, hx, _, e⟩)
    · exact ⟨x, hx, e⟩
    · exact ⟨x, hx, e⟩
theorem RdI.both (h : RdI n l lq lh seq) {id : Int} (h1 : id ∈ pIds lh) (h2 : id ∈ lq.map RItem.id) : False := by
  obtain ⟨x, hx, a, e⟩ := h.hmem.1 h1
  obtain ⟨y, hy, b, g⟩ := h.qmem.1 h2
  have := kid_inj h.ok.nodup hx hy (e.trans g.symm)
  subst this
  rw [a] at b
  cases b
theorem split_len {α : Type} (p : α → Bool) : ∀ (l : List α), (l.filter p).length + (l.filter fun x => !p x).length = l.length
  | [] => rfl
  | x :: l => by
    have := split_len p l
    rw [List.filter_cons, List.filter_cons]
    cases p x <;> simp <;> omega
theorem RdI.len (h : RdI n l lq lh seq) : lq.length + lh.length = l.length := by
  have h1 : lh.length = (l.filter kE).length := by
    have := congrArg List.length h.heap
    simpa using this
  have h2 := split_len kE l
  have h3 := h.qlen
  have e : kN = fun x => !kE x := rfl
  rw [e] at h3
  omega
theorem RdI.nil : RdI n [] [] [] 0 := ⟨KOk.nil, rfl, by simp, fun v => rfl, rfl⟩

/-- All ids, in order. -/
theorem RdI.listed (h : RdI n l lq lh seq) : kIds l = pIds lh ++ (List.range 256).flatMap fun (j : Nat) => rIds lq (255 - j) := by
  have hc : l.Pairwise fun a b => kClass a.k ≤ kClass b.k := List.pairwise_iff_getElem.2 fun i j hi hj hij => kClass_le (h.ok.ok _ (List.getElem_mem hi)) (h.ok.ok _ (List.getElem_mem hj)) (List.pairwise_iff_getElem.1 h.ok.sorted i j hi hj hij)
  have h0 : ∀ x ∈ l, 0 ≤ kClass x.k := fun x hx => by
    have := (h.ok.ok x hx).2
    unfold kClass; split <;> omega
  have hall : l.filter (fun x => decide (kClass x.k < ((257 : Nat) : Int))) = l := by
    rw [List.filter_eq_self]
    intro x hx
    have := (h.ok.ok x hx).2
    refine decide_eq_true ?_
    unfold kClass; split <;> omega
  have hsp := classes_upto (c := fun x => kClass x.k) hc h0 257
  rw [hall] at hsp
  have e0 : l.filter (fun x => decide (kClass x.k = ((0 : Nat) : Int))) = l.filter kE := by
    apply List.filter_congr
    intro x hx
    have := (h.ok.ok x hx).2
    unfold kClass kE
    cases x.k.edf with
    | true => rfl
    | false => simp; omega
  have e1 : ∀ (j : Nat), l.filter (fun x => decide (kClass x.k = ((j + 1 : Nat) : Int))) = l.filter (kL (255 - j)) := fun j => by
    apply List.filter_congr
    intro x hx
    unfold kClass kL
    cases x.k.edf with
    | true => simp; omega
    | false =>
      simp only [Bool.not_false, Bool.true_and, Bool.false_eq_true, if_false]
      exact decide_eq_decide.2 (by omega)
  have hr : List.range 257 = 0 :: (List.range 256).map Nat.succ := List.range_succ_eq_map
  rw [hr, List.flatMap_cons, e0, List.flatMap_map] at hsp
  have h2 : ((List.range 256).flatMap fun a => l.filter fun x => decide (kClass x.k = ((Nat.succ a : Nat) : Int))) = (List.range 256).flatMap fun (j : Nat) => l.filter (kL (255 - j)) := by
    congr 1
    funext j
    exact e1 j
  rw [h2] at hsp
  have h3 : kIds l = kIds (l.filter kE ++ (List.range 256).flatMap fun (j : Nat) => l.filter (kL (255 - j))) := by rw [← hsp]
  rw [h3, kIds, List.map_append, h.hIds, kIds, List.map_flatMap]
  congr 1
  congr 1
  funext j
  exact (h.queue _).symm

/-! ### one more, one less -/
theorem heap_put {id d : Int} {lv : Int} (h0 : ∀ x ∈ lh, x.sq ≤ seq) : ∀ {lh : List PItem} {le : List KItem}, (∀ x ∈ lh, x.sq ≤ seq) → (∀ x ∈ le, x.k.edf = true) → lh.map (fun x => (x.id, x.dl)) = le.map (fun x => (x.id, x.k.dl)) →
    (pput ⟨id, d, seq + 1⟩ lh).map (fun x => (x.id, x.dl)) = (kput ⟨id, ⟨true, d, lv⟩⟩ le).map fun x => (x.id, x.k.dl)
  | [], [], _, _, _ => rfl
  | [], _ :: _, _, _, h => by simp at h
  | _ :: _, [], _, _, h => by simp at h
  | y :: t, z :: u, h1, h2, h => by
    simp only [List.map_cons, List.cons.injEq, Prod.mk.injEq] at h
    have hz := h2 z (by simp)
    have hy := h1 y (by simp)
    have hd : PItem.lt ⟨id, d, seq + 1⟩ y ↔ kAbove ⟨true, d, lv⟩ z.k = true := by
      unfold PItem.lt kAbove
      rw [hz]
      simp only [Bool.and_true, if_true, decide_eq_true_eq, ← h.1.2]
      omega
    unfold pput kput
    by_cases hlt : PItem.lt ⟨id, d, seq + 1⟩ y
    · rw [if_pos hlt, if_pos (hd.1 hlt)]
      simp [h]
    · rw [if_neg hlt, if_neg (fun e => hlt (hd.2 e))]
      rw [List.map_cons, List.map_cons, heap_put (lv := lv) h0 (fun x hx => h1 x (by simp [hx])) (fun x hx => h2 x (by simp [hx])) h.2]
      simp [h.1]
theorem RdI.putH (h : RdI n l lq lh seq) {id : Int} {k : KKey} (h0 : 0 ≤ id ∧ id < n) (hr : kRight k = true) (ho : k.ok) (hx : id ∉ kIds l) (he : k.edf = true) :
    RdI n (kput ⟨id, k⟩ l) lq (pput ⟨id, k.dl, seq + 1⟩ lh) (seq + 1) := by
  refine ⟨h.ok.put (x := ⟨id, k⟩) h0 hr ho hx, ?_, ?_, fun v => ?_, ?_⟩
  · rw [kput_filter_in (x := ⟨id, k⟩) (p := kE) he h.ok.sorted]
    obtain ⟨e, d, v⟩ := k
    simp only at he
    subst he
    exact heap_put h.seqs h.seqs (fun x hx => (List.mem_filter.1 hx).2) h.heap
  · intro x hx
    rcases List.mem_cons.1 ((pput_perm _ lh).mem_iff.1 hx) with rfl | hx
    · exact Int.le_refl _
    · have := h.seqs x hx; omega
  · rw [kput_filter_out (x := ⟨id, k⟩) (p := kL v) (by simp [kL, he])]
    exact h.queue v
  · rw [kput_filter_out (x := ⟨id, k⟩) (p := kN) (by simp [kN, he])]
    exact h.qlen
theorem RdI.putQ (h : RdI n l lq lh seq) {id : Int} {k : KKey} (h0 : 0 ≤ id ∧ id < n) (hr : kRight k = true) (ho : k.ok) (hx : id ∉ kIds l) (he : k.edf = false) :
    RdI n (kput ⟨id, k⟩ l) (lq ++ [⟨id, k.lv⟩]) lh seq := by
  refine ⟨h.ok.put (x := ⟨id, k⟩) h0 hr ho hx, ?_, h.seqs, fun v => ?_, ?_⟩
  · rw [kput_filter_out (x := ⟨id, k⟩) (p := kE) he]
    exact h.heap
  · rw [rIds_snoc, h.queue v]
    by_cases hv : k.lv = v
    · rw [if_pos hv, kput_filter_in (x := ⟨id, k⟩) (p := kL v) (by simp [kL, he, hv]) h.ok.sorted]
      rw [kput_back]
      · simp
      · intro y hy
        have := (List.mem_filter.1 hy).2
        simp only [kL, Bool.and_eq_true, Bool.not_eq_eq_eq_not, Bool.not_true, decide_eq_true_eq] at this
        unfold kAbove
        rw [he, this.1]
        simp; omega
    · rw [if_neg hv, List.append_nil, kput_filter_out (x := ⟨id, k⟩) (p := kL v) (by simp [kL, hv])]
  · rw [kput_filter_in (x := ⟨id, k⟩) (p := kN) (by simp [kN, he]) h.ok.sorted, kput_len, List.length_append, h.qlen]; rfl
theorem filter_kout (l : List KItem) (id : Int) (p : KItem → Bool) : (kout l id).filter p = kout (l.filter p) id := by
  unfold kout
  rw [List.filter_filter, List.filter_filter]
  congr 1
  funext x
  exact Bool.and_comm _ _
theorem RdI.outQ (h : RdI n l lq lh seq) {id : Int} (hq : id ∈ lq.map RItem.id) (hnd : (lq.map RItem.id).Nodup) : RdI n (kout l id) (rWithout lq id) lh seq := by
  have hno : id ∉ pIds lh := fun e => h.both e hq
  refine ⟨h.ok.out id, ?_, h.seqs, fun v => ?_, ?_⟩
  · rw [filter_kout, kout_not]
    · exact h.heap
    · rw [← h.hIds]; exact hno
  · rw [rIds_without, h.queue v, filter_kout, ← kIds, ← kIds, kout_ids]
  · rw [filter_kout]
    obtain ⟨x, hx, a, rfl⟩ := h.qmem.1 hq
    have h1 := kout_len (l := l.filter kN) (id := x.id) (by
      unfold kIds
      exact (List.Sublist.map KItem.id (List.filter_sublist (l := l) (p := kN))).nodup h.ok.nodup) (List.mem_map.2 ⟨x, List.mem_filter.2 ⟨hx, by simp [kN, a]⟩, rfl⟩)
    have h2 : (rWithout lq x.id).length + 1 = lq.length := by
      obtain ⟨y, hy, e⟩ := List.mem_map.1 hq
      have h3 := erase_filter (f := RItem.id) hnd hq
      have h4 : (lq.eraseIdx (ixOf (lq.map RItem.id) x.id).toNat).length = lq.length - 1 := by
        rw [List.length_eraseIdx, if_pos]
        have h5 := ixOf_range (lq.map RItem.id) x.id
        have h6 := ixOf_mem.2 hq
        rw [List.length_map] at h5
        omega
      rw [h3] at h4
      have : 0 < lq.length := List.length_pos_of_mem hy
      unfold rWithout
      omega
    have := h.qlen
    omega
theorem map_pout (lh : List PItem) (id : Int) : (pout lh id).map (fun x => (x.id, x.dl)) = (lh.map fun x => (x.id, x.dl)).filter fun p => decide (p.1 ≠ id) := by
  unfold pout
  rw [List.filter_map]; rfl
theorem map_koutD (l : List KItem) (id : Int) : (kout l id).map (fun x => (x.id, x.k.dl)) = (l.map fun x => (x.id, x.k.dl)).filter fun p => decide (p.1 ≠ id) := by
  unfold kout
  rw [List.filter_map]; rfl
theorem RdI.outH (h : RdI n l lq lh seq) {id : Int} (hh : id ∈ pIds lh) : RdI n (kout l id) lq (pout lh id) seq := by
  have hno : id ∉ lq.map RItem.id := fun e => h.both hh e
  refine ⟨h.ok.out id, ?_, fun x hx => h.seqs x (mem_pout.1 hx).1, fun v => ?_, ?_⟩
  · rw [filter_kout, map_koutD, map_pout, h.heap]
  · rw [filter_kout, kout_not, h.queue v]
    intro e
    rw [kIds, ← h.queue v] at e
    obtain ⟨y, hy, _, e⟩ := mem_rIds.1 e
    exact hno (List.mem_map.2 ⟨y, hy, e⟩)
  · rw [filter_kout, kout_not]
    · exact h.qlen
    · intro e
      obtain ⟨x, hx, e⟩ := List.mem_map.1 e
      obtain ⟨a, b⟩ := List.mem_filter.1 hx
      exact hno (h.qmem.2 ⟨x, a, by simpa [kN] using b, e⟩)

/-! ### the first one -/
theorem RdI.topH (h : RdI n l lq lh seq) {y : PItem} {t : List PItem} (e : lh = y :: t) : kTopId l = y.id ∧ kTopK l = kDead y.dl ∧ kTopOk l = true ∧ l ≠ [] := by
  subst e
  have hh := h.heap
  cases l with
  | nil => simp at hh
  | cons x l =>
    have hx : x.k.edf = true := by
      cases he : x.k.edf with
      | true => rfl
      | false =>
        rw [List.filter_cons, if_neg (by simp [kE, he])] at hh
        obtain ⟨z, hz, _⟩ : ∃ z ∈ l.filter kE, True := by
          cases hf : l.filter kE with
          | nil => rw [hf] at hh; simp at hh
          | cons z u => exact ⟨z, by simp, trivial⟩
        obtain ⟨a, b⟩ := List.mem_filter.1 hz
        have h1 := (List.pairwise_cons.1 h.ok.sorted).1 z a
        unfold kAbove at h1
        rw [he, show z.k.edf = true from b] at h1
        simp at h1
    rw [List.filter_cons, if_pos (show kE x = true from hx)] at hh
    simp only [List.map_cons, List.cons.injEq, Prod.mk.injEq] at hh
    have hr := kRight_iff.1 (h.ok.right x (by simp))
    refine ⟨hh.1.1.symm, ?_, rfl, by simp⟩
    show x.k = _
    rw [hh.1.2]
    rcases hr with e | e
    · exact e
    · rw [e] at hx; cases hx
theorem RdI.topQ (h : RdI n l lq lh seq) (e : lh = []) (hnd : (lq.map RItem.id).Nodup) : topOk lq = kTopOk l ∧ (topOk lq = true → kTopId l = topId lq ∧ kTopK l = kFixed (topLv lq)) := by
  subst e
  have hne : ∀ x ∈ l, x.k.edf = false := fun x hx => by
    cases he : x.k.edf with
    | false => rfl
    | true =>
      have hh := h.heap
      have hm : x ∈ l.filter kE := List.mem_filter.2 ⟨hx, he⟩
      cases hf : l.filter kE with
      | nil => rw [hf] at hm; cases hm
      | cons z u => rw [hf] at hh; simp at hh
  cases l with
  | nil =>
    have h1 := h.qlen
    have h2 : lq = [] := List.length_eq_zero_iff.1 (by simpa using h1)
    subst h2
    exact ⟨rfl, fun e => by cases e⟩
  | cons x l =>
    have hx := hne x (by simp)
    have hmax : ∀ y ∈ x :: l, y.k.lv ≤ x.k.lv := fun y hy => by
      rcases List.mem_cons.1 hy with rfl | hy
      · exact Int.le_refl _
      · have h1 := (List.pairwise_cons.1 h.ok.sorted).1 y hy
        unfold kAbove at h1
        rw [hx, hne y (by simp [hy])] at h1
        simpa using h1
    have hq : rIds lq x.k.lv = x.id :: ((l.filter (kL x.k.lv)).map KItem.id) := by
      rw [h.queue, List.filter_cons, if_pos (by simp [kL, hx])]; rfl
    rcases rtop_spec lq with ⟨e, _⟩ | ⟨i, hi, h1, h2⟩
    · subst e; simp [rIds] at hq
    · have h0 : ¬ rtop lq < 0 := by omega
      have hg : rget lq (rtop lq) = lq[i] := by rw [h1, rget]; simp [hi]
      have hlv : topLv lq = lq[i].lv := by rw [topLv, if_neg h0, hg]
      have hid : topId lq = lq[i].id := by rw [topId, if_neg h0, hg]
      have hok : topOk lq = true := by rw [topOk]; simpa using h0
      have a1 : x.k.lv ≤ lq[i].lv := by
        have : x.id ∈ rIds lq x.k.lv := by rw [hq]; simp
        obtain ⟨y, hy, e1, _⟩ := mem_rIds.1 this
        obtain ⟨j, hj, rfl⟩ := List.getElem_of_mem hy
        have := (h2 j hj).1
        omega
      have a2 : lq[i].lv ≤ x.k.lv := by
        have : lq[i].id ∈ rIds lq lq[i].lv := mem_rIds.2 ⟨lq[i], List.getElem_mem _, rfl, rfl⟩
        rw [h.queue] at this
        obtain ⟨z, hz, _⟩ := List.mem_map.1 this
        obtain ⟨g1, g2⟩ := List.mem_filter.1 hz
        simp only [kL, Bool.and_eq_true, decide_eq_true_eq] at g2
        have := hmax z g1
        omega
      have a3 : lq[i].lv = x.k.lv := by omega
      have hr := kRight_iff.1 (h.ok.right x (by simp))
      refine ⟨hok, fun _ => ⟨?_, ?_⟩⟩
      · have hsp : lq = lq.take i ++ lq[i] :: lq.drop (i + 1) := by rw [← List.drop_eq_getElem_cons hi, List.take_append_drop]
        have hA : ∀ y ∈ lq.take i, ¬ y.lv = x.k.lv := fun y hy e => by
          obtain ⟨j, hj, rfl⟩ := List.getElem_of_mem hy
          simp only [List.length_take] at hj
          have := (h2 j (by omega)).2 (by omega)
          rw [List.getElem_take] at e
          omega
        have h3 : rIds lq x.k.lv = rIds (lq.take i ++ lq[i] :: lq.drop (i + 1)) x.k.lv := by rw [← hsp]
        rw [hq] at h3
        unfold rIds at h3
        have hnil : (lq.take i).filter (fun y => decide (y.lv = x.k.lv)) = [] := List.filter_eq_nil_iff.2 (fun y hy => by simpa using hA y hy)
        have hcons : (lq[i] :: lq.drop (i + 1)).filter (fun y => decide (y.lv = x.k.lv)) = lq[i] :: (lq.drop (i + 1)).filter (fun y => decide (y.lv = x.k.lv)) := by rw [List.filter_cons, if_pos (by simpa using a3)]
        rw [List.filter_append, hnil, hcons] at h3
        simp only [List.nil_append, List.map_cons, List.cons.injEq] at h3
        rw [hid]; exact h3.1
      · show x.k = _
        rw [hlv, a3]
        rcases hr with e | e
        · rw [e] at hx; cases hx
        · exact e
end Go.Proofs

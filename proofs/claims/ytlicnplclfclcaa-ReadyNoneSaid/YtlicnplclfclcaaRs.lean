/- The reference's set of layer 10: its list of items: where an id stands, taking one out, List, Len, Fork. -/
import Derived.Test.YtlicnplclfclcaaOutI
import Derived.Test.YtlicnplclfclcaaRsL
namespace Go.Proofs
open Go Go.Gx
variable {oo : World}

def rsO (p : Value) (n : Nat) (most : Int) (l : List KItem) : HP := fun F => ∃ b s, (p = .pointer (some ⟨b, 0, none⟩) ∧ l.length ≤ 1000000) ∧ Star [pt b (.cells #[.int .i64 n, .int .i64 most, s] 148 (0, 0)), own s 163 4 l.length (l.flatMap KItem.cells)] F
theorem rsO_open {w : World} {L : List HP} {p : Value} {n : Nat} {most : Int} {l : List KItem} (h : Sat oo w (rsO p n most l :: L)) :
    ∃ b sp cap, p = .pointer (some ⟨b, 0, none⟩) ∧ l.length ≤ 1000000 ∧ Sat oo w (pt b (.cells #[.int .i64 n, .int .i64 most, .slice sp l.length cap] 148 (0, 0)) :: own (.slice sp l.length cap) 163 4 l.length (l.flatMap KItem.cells) :: L) := by
  obtain ⟨⟨b, s⟩, h⟩ := h.ex (α := Nat × Value) 0 rfl (q := fun x F => (p = .pointer (some ⟨x.1, 0, none⟩) ∧ l.length ≤ 1000000) ∧ Star [pt x.1 (.cells #[.int .i64 n, .int .i64 most, x.2] 148 (0, 0)), own x.2 163 4 l.length (l.flatMap KItem.cells)] F) (fun F ⟨b, s, h⟩ => ⟨(b, s), h⟩)
  obtain ⟨h1, h2⟩ := h.fact 0 rfl (fun F hF => hF.1)
  have h3 := (h.imp 0 rfl (fun F hF => hF.2)).unstar
  obtain ⟨sp, cap, rfl⟩ := h3.ownForm 1 rfl
  exact ⟨b, sp, cap, h1, h2, h3⟩
theorem rsO_shut {w : World} {L : List HP} {b : Nat} {n : Nat} {most : Int} {s : Value} {l : List KItem} (hl : l.length ≤ 1000000)
    (h : Sat oo w (pt b (.cells #[.int .i64 n, .int .i64 most, s] 148 (0, 0)) :: own s 163 4 l.length (l.flatMap KItem.cells) :: L)) : Sat oo w (rsO (.pointer (some ⟨b, 0, none⟩)) n most l :: L) := by
  have h1 := Sat.star (B := [pt b (.cells #[.int .i64 n, .int .i64 most, s] 148 (0, 0)), own s 163 4 l.length (l.flatMap KItem.cells)]) (L := L) h
  exact h1.imp 0 rfl (fun F hF => ⟨b, s, ⟨rfl, hl⟩, hF⟩)
theorem rs_plain (l : List KItem) : (l.flatMap KItem.cells).all Value.plain = true := rows_plain (f := KItem.cells) (fun _ => rfl) l

set_option maxHeartbeats 1000000 in
theorem rsAt (p : Value) (n : Nat) (most : Int) (l : List KItem) (id : Int) : Ct Try.prog 132 #[p, .int .i64 id] [rsO p n most l] (fun v ps => v = .int .i64 (ixOf (l.map KItem.id) id) ∧ ps = [rsO p n most l]) := by
  refine Ct.enter Try.func132 rfl (Nat.le_of_ble_eq_true rfl) ?_
  intro oo w R hS
  change RC _ _ _ _ _ _ [(0, _), (1, _)] _
  obtain ⟨b, sp, cap, rfl, hl, hS⟩ := rsO_open hS
  refine RC.seq ?_
  refine RC.region rfl ?_
  refine RL.q (Qt.as rfl) ?_
  refine RL.nil ?_
  refine RE.sqN ?_
  refine RC.seq ?_
  refine RC.seq ?_
  refine RC.region rfl ?_
  refine RL.q (Qt.as rfl) ?_
  refine RL.nil ?_
  refine RE.sqN ?_
  refine RC.block ?_
  -- stops: loop
  refine RC.loop (γ := Nat) (fun k E w' => E = [(5, .int .i64 k), (0, .pointer (some ⟨b, 0, none⟩)), (1, .int .i64 id)] ∧ w' = w ∧ k ≤ l.length ∧ ixFrom ((l.drop k).map KItem.id) id k = ixOf (l.map KItem.id) id) (fun k => l.length - k) 0 _ (by (repeat (first | exact Sub.nil | refine Sub.cons rfl ?_))) ⟨rfl, rfl, by omega, rfl⟩ ?_
  rintro k E w' ⟨rfl, rfl, hk, hrat⟩
  refine RC.seq ?_
  refine RC.seq ?_
  refine RC.region rfl ?_
  refine RL.q (Qt.mv rfl) ?_
  refine RL.q (Qt.neqN rfl rfl) ?_
  refine RL.q (Qt.mv rfl) ?_
  refine RLG.start 8 true rfl ?_
  refine RLG.q rfl rfl rfl (fun _ => Qt.mv rfl) ?_
  refine RLG.q rfl rfl rfl (fun _ => Qt.mv rfl) ?_
  refine RLG.q rfl rfl rfl (fun _ => Qt.nil rfl) ?_
  refine RLG.q rfl rfl rfl (fun _ => Qt.fld rfl) ?_
  refine RLG.q rfl rfl rfl (fun hg => by (try simp only [Option.isSome_some] at hg); exact Qt.ld rfl (by first | exact hS.at 0 rfl | exact hS.at 1 rfl | exact hS.at 2 rfl) (by first  | rfl)) ?_
  refine RLG.q rfl rfl rfl (fun _ => Qt.lenS rfl) ?_
  refine RLG.q rfl rfl rfl (fun hg => by (try simp only [Option.isSome_some] at hg); exact Qt.lss rfl rfl) ?_
  refine RLG.and rfl rfl ?_
  refine RL.nil ?_
  refine RE.sqN ?_
  -- stops: cond
  -- stops: cond
  refine RC.cond rfl (fun h => ?_) (fun h => ?_)
  · skip
    have hlt : k < l.length := by simpa using h
    have hS0 := hS
    obtain ⟨bs, cap', c, hv, hc1, hc2, hc3, hc4, hS⟩ := hS.ownPos 1 rfl (by omega)
    cases hv
    refine RC.skip ?_
    refine RE.sqN ?_
    refine RC.seq ?_
    refine RC.block ?_
    refine RC.seq ?_
    refine RC.region rfl ?_
    refine RL.q (Qt.mv rfl) ?_
    refine RL.q (Qt.nil rfl) ?_
    refine RL.q (Qt.fld rfl) ?_
    refine RL.q (Qt.ld rfl (by first | exact hS.at 0 rfl | exact hS.at 1 rfl | exact hS.at 2 rfl) (by first | exact row_cell (f := KItem.cells) (fun _ => rfl) hc4 rfl hlt (j := 0) (by decide) rfl (by omega) | rfl)) ?_
    refine RL.q (Qt.mv rfl) ?_
    refine RL.q (Qt.ixS rfl rfl (by first | assumption | omega | (dsimp only; omega)) (by first | assumption | omega | (dsimp only; omega))) ?_
    refine RL.q (Qt.fld rfl) ?_
    refine RL.q (Qt.ld rfl (by first | exact hS.at 0 rfl | exact hS.at 1 rfl | exact hS.at 2 rfl) (by first | exact row_cell (f := KItem.cells) (fun _ => rfl) hc4 rfl hlt (j := 0) (by decide) rfl (by omega) | rfl)) ?_
    refine RL.q (Qt.mv rfl) ?_
    refine RL.q (Qt.eql rfl rfl) ?_
    refine RL.nil ?_
    refine RE.sqN ?_
    -- stops: cond
    have hd : l.drop k = l[k] :: l.drop (k + 1) := List.drop_eq_getElem_cons hlt
    rw [hd, List.map_cons] at hrat
    refine RC.cond rfl (fun h2 => ?_) (fun h2 => ?_)
    · refine RC.seq ?_
      refine RC.region rfl ?_
      refine RL.q (Qt.mv rfl) ?_
      refine RL.q (Qt.as rfl) ?_
      refine RL.nil ?_
      refine RE.sqN ?_
      refine RC.ret ?_
      refine RE.bkR ?_
      refine RE.sqR ?_
      refine RE.lpR ?_
      refine RE.bkR ?_
      refine RE.sqR ?_
      -- stops: end ret
      have h3 : l[k].id = id := of_decide_eq_true h2
      refine RE.retB rfl ⟨?_, rfl⟩ (rsO_shut hl hS0)
      simp only [ixFrom, h3, if_true] at hrat
      rw [← hrat]; rfl
    · refine RC.skip ?_
      refine RE.bkN ?_
      refine RE.sqN ?_
      refine RC.region rfl ?_
      refine RL.q (Qt.mv rfl) ?_
      refine RL.q ((by first | exact Qt.addI rfl rfl (by dsimp only [inK]; omega) | exact Qt.add rfl rfl)) ?_
      refine RL.q (Qt.as rfl) ?_
      refine RL.nil ?_
      -- stops: next
      have h3 : ¬ l[k].id = id := of_decide_eq_false h2
      simp only [ixFrom, h3, if_false] at hrat
      apply RE.lpN (k + 1)
      case hI => exact ⟨rfl, rfl, by omega, hrat⟩
      case hs => (repeat (first | exact Sub.nil | refine Sub.cons rfl ?_))
      case hm =>
        show l.length - (k + 1) < l.length - k
        omega
  · refine RC.exit ?_
    refine RE.sqX ?_
    refine RE.lpX ?_
    refine RE.bkX ?_
    refine RE.sqN ?_
    refine RC.seq ?_
    refine RC.region rfl ?_
    refine RL.q (Qt.as rfl) ?_
    refine RL.nil ?_
    refine RE.sqN ?_
    refine RC.ret ?_
    -- stops: end ret
    have hge : k = l.length := by
      have : ¬ k < l.length := by simpa using h
      omega
    subst hge
    simp only [List.drop_length, List.map_nil, ixFrom] at hrat
    exact RE.retB rfl ⟨by rw [← hrat]; rfl, rfl⟩ (rsO_shut hl hS)

set_option maxHeartbeats 1000000 in
theorem rsOut (p : Value) (n : Nat) (most : Int) (l : List KItem) (a : Int) (h0 : 0 ≤ a) (h1 : a < l.length) : Ct Try.prog 141 #[p, .int .i64 a] [rsO p n most l] (fun v ps => v = .tuple #[] ∧ ps = [rsO p n most (l.eraseIdx a.toNat)]) := by
  refine Ct.enter Try.func141 rfl (Nat.le_of_ble_eq_true rfl) ?_
  intro oo w R hS
  change RC _ _ _ _ _ _ [(0, _), (1, _)] _
  obtain ⟨b, sp, cap, rfl, hl, hS⟩ := rsO_open hS
  obtain ⟨bs, cap', c, hv, hc1, hc2, hc3, hc4, hS⟩ := hS.ownPos 1 rfl (by omega)
  cases hv
  have hS := hS.nilOwn (T := 163) (sz := 4)
  simp only [List.set_cons_zero, List.set_cons_succ] at hS
  refine RC.seq ?_
  refine RC.region rfl ?_
  refine RL.q (Qt.as rfl) ?_
  refine RL.nil ?_
  refine RE.sqN ?_
  refine RC.seq ?_
  -- stops: drawn
  refine RC.drawn 15 [0, 1, 2, 3, 4, 5, 6, 8, 9, 10, 11, 12, 13, 14, 7] (fun w' => w'.heap[b]? = some (.cells #[.int .i64 n, .int .i64 most, .slice (some ⟨bs, 0, none⟩) l.length cap] 148 (0, 0))) (by kernel_rfl) (by kernel_rfl) (hS.drew.get 1 rfl) (fun hh => ?_)
  replace hS := hS.drew
  refine RH.q hh (Calm.sq Calm.body) rfl (by kernel_rfl) (Qt.mv rfl) ?_
  refine RH.q hh (Calm.sq Calm.body) rfl (by kernel_rfl) (Qt.mv rfl) ?_
  refine RH.q hh (Calm.sq Calm.body) rfl (by kernel_rfl) (Qt.nil rfl) ?_
  refine RH.q hh (Calm.sq Calm.body) rfl (by kernel_rfl) (Qt.fld rfl) ?_
  refine RH.q hh (Calm.sq Calm.body) rfl (by kernel_rfl) (Qt.ld rfl (fun _ h => h) (by first  | rfl)) ?_
  refine RH.q hh (Calm.sq Calm.body) rfl (by kernel_rfl) (Qt.mv rfl) ?_
  refine RH.q hh (Calm.sq Calm.body) rfl (by kernel_rfl) (Qt.slHi rfl rfl (by first | assumption | omega | (dsimp only; omega)) (by first | assumption | omega | (dsimp only; omega))) ?_
  refine RH.q hh (Calm.sq Calm.body) rfl (by kernel_rfl) (Qt.mv rfl) ?_
  refine RH.q hh (Calm.sq Calm.body) rfl (by kernel_rfl) (Qt.nil rfl) ?_
  refine RH.q hh (Calm.sq Calm.body) rfl (by kernel_rfl) (Qt.fld rfl) ?_
  refine RH.q hh (Calm.sq Calm.body) rfl (by kernel_rfl) (Qt.ld rfl (fun _ h => h) (by first  | rfl)) ?_
  refine RH.q hh (Calm.sq Calm.body) rfl (by kernel_rfl) (Qt.mv rfl) ?_
  refine RH.q hh (Calm.sq Calm.body) rfl (by kernel_rfl) ((by first | exact Qt.addI rfl rfl (by dsimp only [inK]; omega) | exact Qt.add rfl rfl)) ?_
  refine RH.q hh (Calm.sq Calm.body) rfl (by kernel_rfl) (Qt.slLo rfl rfl (by first | assumption | omega | (dsimp only; omega)) (by first | assumption | omega | (dsimp only; omega))) ?_
  first | refine RH.e hh rfl (by kernel_rfl) (Ef.app (k := 0) hS rfl rfl rfl (by first | exact Src.rowsTake (fun _ => rfl) (hS.get 2 rfl) hc1 hc2 hc4 (by omega) | exact Src.rowsDrop (k := (a + 1).toNat) (fun _ => rfl) (hS.get 2 rfl) hc1 hc2 hc4 (by omega) rfl (by split <;> omega)) (by first | assumption | omega | (dsimp only; omega)) (by first | exact rs_plain _)) ?_
  intro s12 w hS
  simp only [List.set_cons_zero] at hS
  first | (obtain ⟨sp12, cp12, rfl⟩ := hS.ownForm 0 rfl)
  refine ⟨hS.get 1 rfl, ?_⟩
  refine RH.done hh (by kernel_rfl) ?_
  first | refine RL.e (Ef.app (k := 0) hS rfl rfl rfl (by first | exact Src.rowsTake (fun _ => rfl) (hS.get 2 rfl) hc1 hc2 hc4 (by omega) | exact Src.rowsDrop (k := (a + 1).toNat) (fun _ => rfl) (hS.get 2 rfl) hc1 hc2 hc4 (by omega) rfl (by split <;> omega)) (by first | assumption | omega | (dsimp only; omega)) (by first | exact rs_plain _)) ?_
  intro s20 w hS
  simp only [List.set_cons_zero] at hS
  first | (obtain ⟨sp20, cp20, rfl⟩ := hS.ownForm 0 rfl)
  refine RL.q (Qt.as rfl) ?_
  refine RL.nil ?_
  refine RE.sqN ?_
  refine RC.region rfl ?_
  refine RL.q (Qt.mv rfl) ?_
  refine RL.q (Qt.mv rfl) ?_
  refine RL.q (Qt.nil rfl) ?_
  refine RL.q (Qt.fld rfl) ?_
  first | refine RL.e0 (Ef.st hS 0 rfl rfl rfl (by rfl) (by rfl) (by first | exact Nat.le_of_ble_eq_true rfl | omega | (simp only [Array.size_map]; omega))) ?_ | refine RL.e0 (Ef.st hS 1 rfl rfl rfl (by rfl) (by rfl) (by first | exact Nat.le_of_ble_eq_true rfl | omega | (simp only [Array.size_map]; omega))) ?_ | refine RL.e0 (Ef.st hS 2 rfl rfl rfl (by rfl) (by rfl) (by first | exact Nat.le_of_ble_eq_true rfl | omega | (simp only [Array.size_map]; omega))) ?_ | refine RL.e0 (Ef.st hS 3 rfl rfl rfl (by rfl) (by rfl) (by first | exact Nat.le_of_ble_eq_true rfl | omega | (simp only [Array.size_map]; omega))) ?_
  intro _ w hS
  simp (disch := omega) only [List.set_cons_zero, List.set_cons_succ, cells_slice', Nat.zero_add, wr, List.setIfInBounds_toArray] at hS
  refine RL.nil ?_
  -- stops: end normal
  have hk : a.toNat < l.length := by omega
  have e1 : a.toNat + (l.length - (a + 1).toNat) = (l.eraseIdx a.toNat).length := by rw [List.length_eraseIdx, if_pos hk]; omega
  have e2 : [] ++ (l.take a.toNat).flatMap KItem.cells ++ (l.drop (a + 1).toNat).flatMap KItem.cells = (l.eraseIdx a.toNat).flatMap KItem.cells := by
    rw [List.eraseIdx_eq_take_drop_succ, List.flatMap_append, show (a + 1).toNat = a.toNat + 1 by omega]; simp
  rw [e1, e2] at hS
  refine RE.endB rfl ⟨rfl, rfl⟩ (rsO_shut (by rw [← e1]; omega) (hS.pick [1, 0, 3] (by decide) rfl))

set_option maxHeartbeats 1000000 in
theorem rsList (p : Value) (n : Nat) (most : Int) (l : List KItem) : Ct Try.prog 98 #[p] [rsO p n most l] (fun v ps => ps = [ownI v (l.map KItem.id), rsO p n most l]) := by
  refine Ct.enter Try.func98 rfl (Nat.le_of_ble_eq_true rfl) ?_
  intro oo w R hS
  change RC _ _ _ _ _ _ [(0, _)] _
  obtain ⟨b, sp, cap, rfl, hl, hS⟩ := rsO_open hS
  have hS := hS.nilOwn (T := 3) (sz := 1)
  refine RC.seq ?_
  refine RC.region rfl ?_
  refine RL.q (Qt.as rfl) ?_
  refine RL.nil ?_
  refine RE.sqN ?_
  refine RC.seq ?_
  refine RC.region rfl ?_
  refine RL.q (Qt.as rfl) ?_
  refine RL.nil ?_
  refine RE.sqN ?_
  refine RC.seq ?_
  refine RC.seq ?_
  refine RC.region rfl ?_
  refine RL.q (Qt.as rfl) ?_
  refine RL.nil ?_
  refine RE.sqN ?_
  refine RC.block ?_
  -- stops: loop
  refine RC.loop (γ := Nat × Value) (fun g E w' => E = [(4, .int .i64 g.1), (3, g.2), (0, .pointer (some ⟨b, 0, none⟩))] ∧ g.1 ≤ l.length ∧ Sat oo w' [ownI g.2 ((l.take g.1).map KItem.id), pt b (.cells #[.int .i64 n, .int .i64 most, .slice sp l.length cap] 148 (0, 0)), own (.slice sp l.length cap) 163 4 l.length (l.flatMap KItem.cells), R]) (fun g => l.length - g.1) (0, .slice none 0 0) _ (by (repeat (first | exact Sub.nil | refine Sub.cons rfl ?_))) ⟨rfl, by simp, hS⟩ ?_
  clear hS
  rintro ⟨k, v⟩ E w ⟨rfl, hk, hS⟩
  dsimp only at hk hS
  refine RC.seq ?_
  refine RC.seq ?_
  refine RC.region rfl ?_
  refine RL.q (Qt.mv rfl) ?_
  refine RL.q (Qt.neqN rfl rfl) ?_
  refine RL.q (Qt.mv rfl) ?_
  refine RLG.start 7 true rfl ?_
  refine RLG.q rfl rfl rfl (fun _ => Qt.mv rfl) ?_
  refine RLG.q rfl rfl rfl (fun _ => Qt.mv rfl) ?_
  refine RLG.q rfl rfl rfl (fun _ => Qt.nil rfl) ?_
  refine RLG.q rfl rfl rfl (fun _ => Qt.fld rfl) ?_
  refine RLG.q rfl rfl rfl (fun hg => by (try simp only [Option.isSome_some] at hg); exact Qt.ld rfl (by first | exact hS.at 0 rfl | exact hS.at 1 rfl | exact hS.at 2 rfl | exact hS.at 3 rfl) (by first  | rfl)) ?_
  refine RLG.q rfl rfl rfl (fun _ => Qt.lenS rfl) ?_
  refine RLG.q rfl rfl rfl (fun hg => by (try simp only [Option.isSome_some] at hg); exact Qt.lss rfl rfl) ?_
  refine RLG.and rfl rfl ?_
  refine RL.nil ?_
  refine RE.sqN ?_
  -- stops: cond
  -- stops: cond
  refine RC.cond rfl (fun h => ?_) (fun h => ?_)
  · skip
    have hlt : k < l.length := by simpa using h
    have htk : (l.take (k + 1)).map KItem.id = (l.take k).map KItem.id ++ [l[k].id] := by rw [List.take_succ_eq_append_getElem hlt, List.map_append]; rfl
    have hkl : ((l.take k).map KItem.id).length = k := by simp; omega
    obtain ⟨bs, cap', c, hv, hc1, hc2, hc3, hc4, hS⟩ := hS.ownPos 2 rfl (by omega)
    cases hv
    refine RC.skip ?_
    refine RE.sqN ?_
    refine RC.seq ?_
    refine RC.block ?_
    refine RC.region rfl ?_
    refine RL.q (Qt.mv rfl) ?_
    refine RL.q (Qt.mv rfl) ?_
    refine RL.q (Qt.nil rfl) ?_
    refine RL.q (Qt.fld rfl) ?_
    refine RL.q (Qt.ld rfl (by first | exact hS.at 0 rfl | exact hS.at 1 rfl | exact hS.at 2 rfl | exact hS.at 3 rfl) (by first | exact row_cell (f := KItem.cells) (fun _ => rfl) hc4 rfl hlt (j := 0) (by decide) rfl (by omega) | rfl)) ?_
    refine RL.q (Qt.mv rfl) ?_
    refine RL.q (Qt.ixS rfl rfl (by first | assumption | omega | (dsimp only; omega)) (by first | assumption | omega | (dsimp only; omega))) ?_
    refine RL.q (Qt.fld rfl) ?_
    refine RL.q (Qt.ld rfl (by first | exact hS.at 0 rfl | exact hS.at 1 rfl | exact hS.at 2 rfl | exact hS.at 3 rfl) (by first | exact row_cell (f := KItem.cells) (fun _ => rfl) hc4 rfl hlt (j := 0) (by decide) rfl (by omega) | rfl)) ?_
    refine RL.e (Ef.bsl1 hS rfl) ?_
    rintro _ w ⟨b27, rfl, hS⟩
    try simp (disch := omega) only [List.set_cons_zero, List.set_cons_succ, cells_int'] at hS
    first | refine RL.e (Ef.app (k := 1) hS rfl rfl rfl (Src.pt (hS.get 0 rfl) (by first | exact Nat.le_of_ble_eq_true rfl | omega | (simp only [Array.size_map]; omega))) (by first | assumption | omega | (dsimp only; omega)) (by first | rfl | simp)) ?_ | refine RL.e (Ef.app (k := 1) hS rfl rfl rfl (Src.pt (hS.get 1 rfl) (by first | exact Nat.le_of_ble_eq_true rfl | omega | (simp only [Array.size_map]; omega))) (by first | assumption | omega | (dsimp only; omega)) (by first | rfl | simp)) ?_ | refine RL.e (Ef.app (k := 1) hS rfl rfl rfl (Src.pt (hS.get 2 rfl) (by first | exact Nat.le_of_ble_eq_true rfl | omega | (simp only [Array.size_map]; omega))) (by first | assumption | omega | (dsimp only; omega)) (by first | rfl | simp)) ?_ | refine RL.e (Ef.app (k := 1) hS rfl rfl rfl (Src.pt (hS.get 3 rfl) (by first | exact Nat.le_of_ble_eq_true rfl | omega | (simp only [Array.size_map]; omega))) (by first | assumption | omega | (dsimp only; omega)) (by first | rfl | simp)) ?_ | refine RL.e (Ef.app (k := 1) hS rfl rfl rfl (Src.pt (hS.get 4 rfl) (by first | exact Nat.le_of_ble_eq_true rfl | omega | (simp only [Array.size_map]; omega))) (by first | assumption | omega | (dsimp only; omega)) (by first | rfl | simp)) ?_ | refine RL.e (Ef.app (k := 1) hS rfl rfl rfl (Src.own hS 0 rfl) (by first | assumption | omega | (dsimp only; omega)) (by first | rfl | simp)) ?_ | refine RL.e (Ef.app (k := 1) hS rfl rfl rfl (Src.own hS 1 rfl) (by first | assumption | omega | (dsimp only; omega)) (by first | rfl | simp)) ?_ | refine RL.e (Ef.app (k := 1) hS rfl rfl rfl (Src.own hS 2 rfl) (by first | assumption | omega | (dsimp only; omega)) (by first | rfl | simp)) ?_ | refine RL.e (Ef.app (k := 1) hS rfl rfl rfl (Src.own hS 3 rfl) (by first | assumption | omega | (dsimp only; omega)) (by first | rfl | simp)) ?_ | refine RL.e (Ef.app (k := 1) hS rfl rfl rfl (Src.own hS 4 rfl) (by first | assumption | omega | (dsimp only; omega)) (by first | rfl | simp)) ?_
    intro s28 w hS
    simp only [List.set_cons_zero, List.set_cons_succ, List.drop_zero] at hS
    first | (obtain ⟨sp28, cp28, rfl⟩ := hS.ownForm 1 rfl)
    refine RL.q (Qt.as rfl) ?_
    refine RL.nil ?_
    refine RE.bkN ?_
    refine RE.sqN ?_
    refine RC.region rfl ?_
    refine RL.q (Qt.mv rfl) ?_
    refine RL.q ((by first | exact Qt.addI rfl rfl (by dsimp only [inK]; omega) | exact Qt.add rfl rfl)) ?_
    refine RL.q (Qt.as rfl) ?_
    refine RL.nil ?_
    -- stops: next
    have hS := hS.pick [1, 2, 3, 4] (by decide) rfl
    have hS := hS.ownMk (cap := cap) (n := l.length) (sz := 4) (cs := l.flatMap KItem.cells) 2 rfl hc1 hc2 hc3 hc4
    apply RE.lpN ((k + 1, .slice sp28 (((l.take k).map KItem.id).length + 1) cp28))
    case hI =>
      refine ⟨rfl, hlt, ?_⟩
      dsimp only
      unfold ownI
      rw [htk, List.length_append, List.length_singleton, ints, List.map_append]
      exact hS
    case hs => (repeat (first | exact Sub.nil | refine Sub.cons rfl ?_))
    case hm =>
      show l.length - (k + 1) < l.length - k
      omega
  · refine RC.exit ?_
    refine RE.sqX ?_
    refine RE.lpX ?_
    refine RE.bkX ?_
    refine RE.sqN ?_
    refine RC.seq ?_
    refine RC.region rfl ?_
    refine RL.q (Qt.mv rfl) ?_
    refine RL.q (Qt.as rfl) ?_
    refine RL.nil ?_
    refine RE.sqN ?_
    refine RC.ret ?_
    -- stops: end ret
    have hge : k = l.length := by
      have : ¬ k < l.length := by simpa using h
      omega
    subst hge
    rw [List.take_length] at hS
    refine RE.retB rfl (ps := [ownI v (l.map KItem.id), rsO _ n most l]) rfl ?_
    exact (rsO_shut hl (hS.pick [1, 2, 0, 3] (by decide) rfl)).pick [1, 0, 2] (by decide) rfl

set_option maxHeartbeats 1000000 in
theorem rsLen (p : Value) (n : Nat) (most : Int) (l : List KItem) : Ct Try.prog 97 #[p] [rsO p n most l] (fun v ps => v = .int .i64 l.length ∧ ps = [rsO p n most l]) := by
  refine Ct.enter Try.func97 rfl (Nat.le_of_ble_eq_true rfl) ?_
  intro oo w R hS
  change RC _ _ _ _ _ _ [(0, _)] _
  obtain ⟨b, sp, cap, rfl, hl, hS⟩ := rsO_open hS
  refine RC.seq ?_
  refine RC.region rfl ?_
  refine RL.q (Qt.as rfl) ?_
  refine RL.nil ?_
  refine RE.sqN ?_
  refine RC.seq ?_
  refine RC.seq ?_
  refine RC.region rfl ?_
  refine RL.q (Qt.mv rfl) ?_
  refine RL.q (Qt.eqlN rfl rfl) ?_
  refine RL.nil ?_
  refine RE.sqN ?_
  -- stops: cond
  refine RC.condF rfl (rfl) ?_
  refine RC.skip ?_
  refine RE.sqN ?_
  refine RC.seq ?_
  refine RC.region rfl ?_
  refine RL.q (Qt.mv rfl) ?_
  refine RL.q (Qt.nil rfl) ?_
  refine RL.q (Qt.fld rfl) ?_
  refine RL.q (Qt.ld rfl (by first | exact hS.at 0 rfl | exact hS.at 1 rfl | exact hS.at 2 rfl) (by first  | rfl)) ?_
  refine RL.q (Qt.lenS rfl) ?_
  refine RL.q (Qt.as rfl) ?_
  refine RL.nil ?_
  refine RE.sqN ?_
  refine RC.ret ?_
  -- stops: end ret
  exact RE.retB rfl ⟨rfl, rfl⟩ (rsO_shut hl hS)

set_option maxHeartbeats 1000000 in
theorem rsFork (p : Value) (n : Nat) (most : Int) (l : List KItem) : Ct Try.prog 64 #[p] [rsO p n most l] (fun v ps => (∃ b, v = .pointer (some ⟨b, 0, none⟩)) ∧ ps = [rsO p n most l, rsO v n most l]) := by
  refine Ct.enter Try.func64 rfl (Nat.le_of_ble_eq_true rfl) ?_
  intro oo w R hS
  change RC _ _ _ _ _ _ [(0, _)] _
  obtain ⟨b, sp, cap, rfl, hl, hS⟩ := rsO_open hS
  refine RC.seq ?_
  refine RC.region rfl ?_
  refine RL.q (Qt.as rfl) ?_
  refine RL.nil ?_
  refine RE.sqN ?_
  refine RC.seq ?_
  refine RC.seq ?_
  refine RC.region rfl ?_
  refine RL.q (Qt.mv rfl) ?_
  refine RL.q (Qt.eqlN rfl rfl) ?_
  refine RL.nil ?_
  refine RE.sqN ?_
  -- stops: cond
  refine RC.condF rfl (rfl) ?_
  refine RC.skip ?_
  refine RE.sqN ?_
  refine RC.seq ?_
  -- stops: drawn
  refine RC.drawn 14 [0, 1, 2, 3, 4, 5, 6, 7, 9, 10, 11, 12, 8, 13] (fun w' => w'.heap[b]? = some (.cells #[.int .i64 n, .int .i64 most, .slice sp l.length cap] 148 (0, 0))) (by kernel_rfl) (by kernel_rfl) (hS.drew.get 0 rfl) (fun hh => ?_)
  replace hS := hS.drew
  refine RH.q hh (Calm.sq Calm.body) rfl (by kernel_rfl) (Qt.mv rfl) ?_
  refine RH.q hh (Calm.sq Calm.body) rfl (by kernel_rfl) (Qt.nil rfl) ?_
  refine RH.q hh (Calm.sq Calm.body) rfl (by kernel_rfl) (Qt.fld rfl) ?_
  refine RH.q hh (Calm.sq Calm.body) rfl (by kernel_rfl) (Qt.ld rfl (fun _ h => h) (by first  | rfl)) ?_
  refine RH.q hh (Calm.sq Calm.body) rfl (by kernel_rfl) (Qt.mv rfl) ?_
  refine RH.q hh (Calm.sq Calm.body) rfl (by kernel_rfl) (Qt.nil rfl) ?_
  refine RH.q hh (Calm.sq Calm.body) rfl (by kernel_rfl) (Qt.fld rfl) ?_
  refine RH.q hh (Calm.sq Calm.body) rfl (by kernel_rfl) (Qt.ld rfl (fun _ h => h) (by first  | rfl)) ?_
  refine RH.q hh (Calm.sq Calm.body) rfl (by kernel_rfl) (Qt.mv rfl) ?_
  refine RH.q hh (Calm.sq Calm.body) rfl (by kernel_rfl) (Qt.nil rfl) ?_
  refine RH.q hh (Calm.sq Calm.body) rfl (by kernel_rfl) (Qt.fld rfl) ?_
  refine RH.q hh (Calm.sq Calm.body) rfl (by kernel_rfl) (Qt.ld rfl (fun _ h => h) (by first  | rfl)) ?_
  refine RH.e hh rfl (by kernel_rfl) (Ef.bsl0 hS) ?_
  rintro _ w ⟨b13, rfl, hS⟩
  try simp (disch := omega) only [List.set_cons_zero, List.set_cons_succ, cells_int, cells_bool, cells_ptr, cells_slice, cells_func, cells_agg, cells_map, cells_int', cells_bool', cells_ptr', cells_slice', cells_agg', cells_map', cells_func', Nat.zero_add, wr, List.setIfInBounds_toArray] at hS
  refine ⟨hS.get 1 rfl, ?_⟩
  first | refine RH.e hh rfl (by kernel_rfl) (Ef.app (k := 0) hS rfl rfl rfl (by first | exact Src.own hS 2 rfl) (by first | assumption | omega | (dsimp only; omega)) (rs_plain _)) ?_
  intro s18 w hS
  simp only [List.set_cons_zero] at hS
  first | (obtain ⟨sp18, cp18, rfl⟩ := hS.ownForm 0 rfl)
  refine ⟨hS.get 1 rfl, ?_⟩
  refine RH.done hh (by kernel_rfl) ?_
  refine RL.q (Qt.bldV [.tmp 8, .tmp 12, .tmp 18] rfl rfl (by kernel_rfl)) ?_
  refine RL.e (Ef.box hS rfl) ?_
  rintro _ w ⟨b20, rfl, hS⟩
  try simp (disch := omega) only [cells_agg', Nat.zero_add] at hS
  refine RL.q (Qt.as rfl) ?_
  refine RL.nil ?_
  refine RE.sqN ?_
  refine RC.ret ?_
  -- stops: end ret
  refine RE.retB rfl ⟨⟨_, rfl⟩, rfl⟩ ?_
  simp only [List.nil_append] at hS
  have h1 := rsO_shut hl (hS.pick [0, 1, 2, 3, 4] (by decide) rfl)
  exact rsO_shut hl (h1.pick [1, 2, 0, 3] (by decide) rfl)
end Go.Proofs

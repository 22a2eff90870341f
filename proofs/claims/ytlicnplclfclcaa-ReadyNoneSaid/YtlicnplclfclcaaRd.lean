/- What is ready: the set of layer 10 itself: how it lies, Key, may, Len, put, out. -/
import Derived.Test.YtlicnplclfclcaaRdP
import Derived.Test.YtlicnplclfclcaaRs5
import Derived.Test.YtlicnplclfclcaaBq5
import Derived.Test.YtlicnplclfclcaaPh4
namespace Go.Proofs
open Go Go.Gx
variable {oo : World}

def sO (p : Value) (n : Nat) (most B : Int) (l : List KItem) : HP := fun F => ∃ x : (List RItem × List PItem × Int) × (Nat × Value × Value), (p = .pointer (some ⟨x.2.1, 0, none⟩) ∧ RdI n l x.1.1 x.1.2.1 x.1.2.2 ∧ 0 ≤ x.1.2.2 ∧ x.1.2.2 ≤ B) ∧
  Star [pt x.2.1 (.cells #[x.2.2.1, x.2.2.2, .int .i64 n, .int .i64 most, .int .u64 x.1.2.2] 130 (0, 0)), qO x.2.2.1 n x.1.1, hO x.2.2.2 n x.1.2.1] F
theorem qO_fact {F : Frag} {p : Value} {n : Nat} {l : List RItem} (h : qO p n l F) : (∃ b, p = .pointer (some ⟨b, 0, none⟩)) ∧ (l.map RItem.id).Nodup := by
  obtain ⟨x, ⟨h1, h2⟩, _⟩ := h
  exact ⟨⟨_, h1⟩, h2.ri.nodup⟩
theorem hO_fact {F : Frag} {p : Value} {n : Nat} {l : List PItem} (h : hO p n l F) : (∃ b, p = .pointer (some ⟨b, 0, none⟩)) ∧ (pIds l).Nodup ∧ n ≤ 1024 := by
  obtain ⟨x, ⟨h1, h2, _, h3⟩, _⟩ := h
  exact ⟨⟨_, h1⟩, h2.pok.nodup, h3⟩
theorem sO_open {w : World} {L : List HP} {p : Value} {n : Nat} {most B : Int} {l : List KItem} (h : Sat oo w (sO p n most B l :: L)) :
    ∃ lq lh seq b bq bh, p = .pointer (some ⟨b, 0, none⟩) ∧ RdI n l lq lh seq ∧ 0 ≤ seq ∧ seq ≤ B ∧ (lq.map RItem.id).Nodup ∧ (pIds lh).Nodup ∧ n ≤ 1024 ∧
      Sat oo w (pt b (.cells #[.pointer (some ⟨bq, 0, none⟩), .pointer (some ⟨bh, 0, none⟩), .int .i64 n, .int .i64 most, .int .u64 seq] 130 (0, 0)) :: qO (.pointer (some ⟨bq, 0, none⟩)) n lq :: hO (.pointer (some ⟨bh, 0, none⟩)) n lh :: L) := by
  obtain ⟨⟨⟨lq, lh, seq⟩, b, pq, ph⟩, h⟩ := h.ex (α := (List RItem × List PItem × Int) × (Nat × Value × Value)) 0 rfl (q := fun x F => (p = .pointer (some ⟨x.2.1, 0, none⟩) ∧ RdI n l x.1.1 x.1.2.1 x.1.2.2 ∧ 0 ≤ x.1.2.2 ∧ x.1.2.2 ≤ B) ∧
    Star [pt x.2.1 (.cells #[x.2.2.1, x.2.2.2, .int .i64 n, .int .i64 most, .int .u64 x.1.2.2] 130 (0, 0)), qO x.2.2.1 n x.1.1, hO x.2.2.2 n x.1.2.1] F) (fun F ⟨x, h⟩ => ⟨x, h⟩)
  obtain ⟨h1, h2, h3, h4⟩ := h.fact 0 rfl (fun F hF => hF.1)
  have h5 := (h.imp 0 rfl (fun F hF => hF.2)).unstar
  obtain ⟨⟨bq, e1⟩, g1⟩ := h5.fact 1 rfl (fun F hF => qO_fact hF)
  obtain ⟨⟨bh, e2⟩, g2, g3⟩ := h5.fact 2 rfl (fun F hF => hO_fact hF)
  dsimp only at e1 e2
  subst e1 e2
  exact ⟨lq, lh, seq, b, bq, bh, h1, h2, h3, h4, g1, g2, g3, h5⟩
theorem sO_shut {w : World} {L : List HP} {b : Nat} {pq ph : Value} {n : Nat} {most B seq : Int} {l : List KItem} {lq : List RItem} {lh : List PItem} (hI : RdI n l lq lh seq) (h0 : 0 ≤ seq) (h1 : seq ≤ B)
    (h : Sat oo w (pt b (.cells #[pq, ph, .int .i64 n, .int .i64 most, .int .u64 seq] 130 (0, 0)) :: qO pq n lq :: hO ph n lh :: L)) : Sat oo w (sO (.pointer (some ⟨b, 0, none⟩)) n most B l :: L) := by
  have h1 := Sat.star (B := [pt b (.cells #[pq, ph, .int .i64 n, .int .i64 most, .int .u64 seq] 130 (0, 0)), qO pq n lq, hO ph n lh]) (L := L) h
  exact h1.imp 0 rfl (fun F hF => ⟨⟨⟨lq, lh, seq⟩, b, pq, ph⟩, ⟨rfl, hI, h0, by assumption⟩, hF⟩)
theorem sO_mono {w : World} {L : List HP} {p : Value} {n : Nat} {most B B' : Int} {l : List KItem} (hB : B ≤ B') (h : Sat oo w (sO p n most B l :: L)) : Sat oo w (sO p n most B' l :: L) := by
  obtain ⟨lq, lh, seq, b, bq, bh, rfl, hI, h0, h1, _, _, _, hS⟩ := sO_open h
  exact sO_shut hI h0 (Int.le_trans h1 hB) hS
theorem sO_ok {w : World} {L : List HP} {p : Value} {n : Nat} {most B : Int} {l : List KItem} (h : Sat oo w (sO p n most B l :: L)) : KOk n l ∧ n ≤ 1024 := by
  obtain ⟨lq, lh, seq, b, bq, bh, rfl, hI, h0, h1, _, _, hn, hS⟩ := sO_open h
  exact ⟨hI.ok, hn⟩
theorem bqLevelR (p : Value) (n : Nat) (l : List RItem) (id : Int) : Ct Try.prog 106 #[p, .int .i64 id] [qO p n l] (fun v ps => v = .tuple #[.int .u8 (levLv l id), .bool (decide (0 ≤ rat l id))] ∧ ps = [qO p n l]) := by
  rw [← rLevel_eq]; exact bqLevel p n l id
theorem bqTopR (p : Value) (n : Nat) (l : List RItem) : Ct Try.prog 114 #[p] [qO p n l] (fun v ps => v = .tuple #[.int .u8 (topLv l), .int .i64 (topId l), .bool (topOk l)] ∧ ps = [qO p n l]) := by
  rw [← rTop_eq]; exact bqTop p n l

set_option maxHeartbeats 2000000 in
theorem rdKey (p : Value) (n : Nat) (most B : Int) (l : List KItem) (id : Int) : Ct Try.prog 59 #[p, .int .i64 id] [sO p n most B l] (fun v ps => v = .tuple #[.agg (kGetK l id).cells.toArray, .bool (kGetOk l id)] ∧ ps = [sO p n most B l]) := by
  refine Ct.enter Try.func59 rfl (Nat.le_of_ble_eq_true rfl) ?_
  intro oo w R hS
  change RC _ _ _ _ _ _ [(0, _), (1, _)] _
  obtain ⟨lq, lh, seq, b, bq, bh, rfl, hI, hs0, hs1, hqn, hhn, hn, hS⟩ := sO_open hS
  refine RC.seq ?_
  refine RC.region rfl ?_
  refine RL.e (Ef.alloc hS) ?_
  rintro _ w ⟨b4, rfl, hS⟩
  try simp (disch := omega) only [cells_agg'] at hS
  refine RL.q (Qt.as rfl) ?_
  refine RL.nil ?_
  refine RE.sqN ?_
  refine RC.seq ?_
  refine RC.seq ?_
  refine RC.region rfl ?_
  refine RL.q (Qt.mv rfl) ?_
  refine RL.q (Qt.eqlN rfl rfl) ?_
  refine RL.nil ?_
  refine RE.sqN ?_
  -- stops: cond
  refine RC.condF rfl (rfl) ?_
  refine RC.skip ?_
  refine RE.sqN ?_
  refine RC.seq ?_
  refine RC.seq ?_
  refine RC.region rfl ?_
  refine RL.q (Qt.mv rfl) ?_
  refine RL.q (Qt.nil rfl) ?_
  refine RL.q (Qt.fld rfl) ?_
  refine RL.q (Qt.fld rfl) ?_
  refine RL.q (Qt.ld rfl (by first | exact hS.at 0 rfl | exact hS.at 1 rfl | exact hS.at 2 rfl | exact hS.at 3 rfl | exact hS.at 4 rfl) (by first  | rfl)) ?_
  refine RL.q (Qt.mv rfl) ?_
  -- stops: op call
  refine RL.e (Ef.call hS (phGet _ n lh id) rfl rfl Try.call38 [3] [0, 1, 2, 4] (by decide) rfl rfl) ?_
  rintro v21 w ⟨ps, ⟨rfl, rfl⟩, hS⟩
  refine RL.q (Qt.mv rfl) ?_
  refine RL.q (Qt.ext rfl rfl) ?_
  refine RL.q (Qt.ext rfl rfl) ?_
  refine RL.q (Qt.ext rfl rfl) ?_
  refine RL.q (Qt.as rfl) ?_
  refine RL.q (Qt.as rfl) ?_
  refine RL.q (Qt.as rfl) ?_
  refine RL.nil ?_
  refine RE.sqN ?_
  refine RC.seq ?_
  refine RC.region rfl ?_
  refine RL.q (Qt.mv rfl) ?_
  refine RL.nil ?_
  refine RE.sqN ?_
  -- stops: cond
  refine RC.cond rfl (fun h => ?_) (fun h => ?_)
  · skip
    have h : id ∈ pIds lh := of_decide_eq_true h
    have hk := hI.getH h hhn
    rw [hk.1, hk.2]
    refine RC.seq ?_
    refine RC.region rfl ?_
    refine RL.q (Qt.mv rfl) ?_
    -- stops: op call
    refine RL.e (Ef.call hS (kyDead _) rfl rfl Try.call54 [] [0, 1, 2, 3, 4] (by decide) rfl rfl) ?_
    rintro v27 w ⟨ps, ⟨rfl, rfl⟩, hS⟩
    try rw [List.nil_append] at hS
    first | refine RL.e0 (Ef.st hS 0 rfl rfl rfl (by rfl) (by rfl) (by first | exact Nat.le_of_ble_eq_true rfl | omega | (simp only [Array.size_map]; omega))) ?_ | refine RL.e0 (Ef.st hS 1 rfl rfl rfl (by rfl) (by rfl) (by first | exact Nat.le_of_ble_eq_true rfl | omega | (simp only [Array.size_map]; omega))) ?_ | refine RL.e0 (Ef.st hS 2 rfl rfl rfl (by rfl) (by rfl) (by first | exact Nat.le_of_ble_eq_true rfl | omega | (simp only [Array.size_map]; omega))) ?_ | refine RL.e0 (Ef.st hS 3 rfl rfl rfl (by rfl) (by rfl) (by first | exact Nat.le_of_ble_eq_true rfl | omega | (simp only [Array.size_map]; omega))) ?_ | refine RL.e0 (Ef.st hS 4 rfl rfl rfl (by rfl) (by rfl) (by first | exact Nat.le_of_ble_eq_true rfl | omega | (simp only [Array.size_map]; omega))) ?_
    intro _ w hS
    simp (disch := omega) only [List.set_cons_zero, List.set_cons_succ, cells_agg'] at hS
    refine RL.q (Qt.as rfl) ?_
    refine RL.nil ?_
    refine RE.sqN ?_
    refine RC.ret ?_
    refine RE.sqR ?_
    -- stops: end ret
    exact RE.retW (vs := [.agg (kDead (pGetD lh id)).cells.toArray, .bool true]) (by repeat (first | exact ResW.nil | refine ResW.tmp rfl ?_ | refine ResW.cell (by infer_instance) rfl rfl (by first | exact hS.get 0 rfl | exact hS.get 1 rfl | exact hS.get 2 rfl | exact hS.get 3 rfl | exact hS.get 4 rfl | exact hS.get 5 rfl | exact hS.get 6 rfl | exact hS.get 7 rfl | exact hS.get 8 rfl) rfl (Nat.le_of_ble_eq_true rfl) ?_)) ⟨rfl, rfl⟩ (sO_shut hI hs0 hs1 (hS.pick [2, 3, 0, 4] (by decide) rfl))
  · skip
    have h : id ∉ pIds lh := of_decide_eq_false h
    refine RC.skip ?_
    refine RE.sqN ?_
    refine RC.seq ?_
    refine RC.seq ?_
    refine RC.region rfl ?_
    refine RL.q (Qt.mv rfl) ?_
    refine RL.q (Qt.nil rfl) ?_
    refine RL.q (Qt.fld rfl) ?_
    refine RL.q (Qt.fld rfl) ?_
    refine RL.q (Qt.ld rfl (by first | exact hS.at 0 rfl | exact hS.at 1 rfl | exact hS.at 2 rfl | exact hS.at 3 rfl | exact hS.at 4 rfl) (by first  | rfl)) ?_
    refine RL.q (Qt.mv rfl) ?_
    -- stops: op call
    refine RL.e (Ef.call hS (bqLevelR _ n lq id) rfl rfl Try.call106 [3] [0, 1, 2, 4] (by decide) rfl rfl) ?_
    rintro v35 w ⟨ps, ⟨rfl, rfl⟩, hS⟩
    refine RL.q (Qt.mv rfl) ?_
    refine RL.q (Qt.ext rfl rfl) ?_
    refine RL.q (Qt.ext rfl rfl) ?_
    refine RL.q (Qt.as rfl) ?_
    refine RL.q (Qt.as rfl) ?_
    refine RL.nil ?_
    refine RE.sqN ?_
    refine RC.seq ?_
    refine RC.region rfl ?_
    refine RL.q (Qt.mv rfl) ?_
    refine RL.nil ?_
    refine RE.sqN ?_
    -- stops: cond
    refine RC.cond rfl (fun h2 => ?_) (fun h2 => ?_)
    · skip
      have h2 : id ∈ lq.map RItem.id := rat_mem.1 (of_decide_eq_true h2)
      have hk := hI.getQ h2 hqn
      rw [hk.1, hk.2]
      refine RC.seq ?_
      refine RC.region rfl ?_
      refine RL.q (Qt.mv rfl) ?_
      -- stops: op call
      refine RL.e (Ef.call hS (kyFixed _) rfl rfl Try.call53 [] [0, 1, 2, 3, 4] (by decide) rfl rfl) ?_
      rintro v40 w ⟨ps, ⟨rfl, rfl⟩, hS⟩
      try rw [List.nil_append] at hS
      first | refine RL.e0 (Ef.st hS 0 rfl rfl rfl (by rfl) (by rfl) (by first | exact Nat.le_of_ble_eq_true rfl | omega | (simp only [Array.size_map]; omega))) ?_ | refine RL.e0 (Ef.st hS 1 rfl rfl rfl (by rfl) (by rfl) (by first | exact Nat.le_of_ble_eq_true rfl | omega | (simp only [Array.size_map]; omega))) ?_ | refine RL.e0 (Ef.st hS 2 rfl rfl rfl (by rfl) (by rfl) (by first | exact Nat.le_of_ble_eq_true rfl | omega | (simp only [Array.size_map]; omega))) ?_ | refine RL.e0 (Ef.st hS 3 rfl rfl rfl (by rfl) (by rfl) (by first | exact Nat.le_of_ble_eq_true rfl | omega | (simp only [Array.size_map]; omega))) ?_ | refine RL.e0 (Ef.st hS 4 rfl rfl rfl (by rfl) (by rfl) (by first | exact Nat.le_of_ble_eq_true rfl | omega | (simp only [Array.size_map]; omega))) ?_
      intro _ w hS
      simp (disch := omega) only [List.set_cons_zero, List.set_cons_succ, cells_agg'] at hS
      refine RL.q (Qt.as rfl) ?_
      refine RL.nil ?_
      refine RE.sqN ?_
      refine RC.ret ?_
      refine RE.sqR ?_
      -- stops: end ret
      exact RE.retW (vs := [.agg (kFixed (levLv lq id)).cells.toArray, .bool true]) (by repeat (first | exact ResW.nil | refine ResW.tmp rfl ?_ | refine ResW.cell (by infer_instance) rfl rfl (by first | exact hS.get 0 rfl | exact hS.get 1 rfl | exact hS.get 2 rfl | exact hS.get 3 rfl | exact hS.get 4 rfl | exact hS.get 5 rfl | exact hS.get 6 rfl | exact hS.get 7 rfl | exact hS.get 8 rfl) rfl (Nat.le_of_ble_eq_true rfl) ?_)) ⟨rfl, rfl⟩ (sO_shut hI hs0 hs1 (hS.pick [3, 0, 1, 4] (by decide) rfl))
    · refine RC.skip ?_
      refine RE.sqN ?_
      refine RC.seq ?_
      refine RC.region rfl ?_
      refine RL.q (Qt.bldV [.const (Go.Value.bool false), .const (Go.Value.int Go.IntKind.u64 0), .const (Go.Value.int Go.IntKind.u8 0)] rfl rfl (by kernel_rfl)) ?_
      first | refine RL.e0 (Ef.st hS 0 rfl rfl rfl (by rfl) (by rfl) (by first | exact Nat.le_of_ble_eq_true rfl | omega | (simp only [Array.size_map]; omega))) ?_ | refine RL.e0 (Ef.st hS 1 rfl rfl rfl (by rfl) (by rfl) (by first | exact Nat.le_of_ble_eq_true rfl | omega | (simp only [Array.size_map]; omega))) ?_ | refine RL.e0 (Ef.st hS 2 rfl rfl rfl (by rfl) (by rfl) (by first | exact Nat.le_of_ble_eq_true rfl | omega | (simp only [Array.size_map]; omega))) ?_ | refine RL.e0 (Ef.st hS 3 rfl rfl rfl (by rfl) (by rfl) (by first | exact Nat.le_of_ble_eq_true rfl | omega | (simp only [Array.size_map]; omega))) ?_ | refine RL.e0 (Ef.st hS 4 rfl rfl rfl (by rfl) (by rfl) (by first | exact Nat.le_of_ble_eq_true rfl | omega | (simp only [Array.size_map]; omega))) ?_
      intro _ w hS
      simp (disch := omega) only [List.set_cons_zero, List.set_cons_succ, cells_agg', Nat.zero_add, wr, List.setIfInBounds_toArray] at hS
      refine RL.q (Qt.as rfl) ?_
      refine RL.nil ?_
      refine RE.sqN ?_
      refine RC.ret ?_
      -- stops: end ret
      have h2 : id ∉ lq.map RItem.id := fun e => of_decide_eq_false h2 (rat_mem.2 e)
      have hk := kGetK_none (l := l) (id := id) (fun e => (hI.mem.1 e).elim h h2)
      rw [hk.1, hk.2]
      exact RE.retW (vs := [.agg KKey.none.cells.toArray, .bool false]) (by repeat (first | exact ResW.nil | refine ResW.tmp rfl ?_ | refine ResW.cell (by infer_instance) rfl rfl (by first | exact hS.get 0 rfl | exact hS.get 1 rfl | exact hS.get 2 rfl | exact hS.get 3 rfl | exact hS.get 4 rfl | exact hS.get 5 rfl | exact hS.get 6 rfl | exact hS.get 7 rfl | exact hS.get 8 rfl) rfl (Nat.le_of_ble_eq_true rfl) ?_)) ⟨rfl, rfl⟩ (sO_shut hI hs0 hs1 (hS.pick [3, 0, 1, 4] (by decide) rfl))

set_option maxHeartbeats 2000000 in
theorem rdMay (p : Value) (n : Nat) (most B : Int) (l : List KItem) (id : Int) (r t : Bool) : Ct Try.prog 107 #[p, .int .i64 id, .bool r, .bool t] [sO p n most B l] (fun v ps => v = .int .i64 (kErr l n id r t) ∧ ps = [sO p n most B l]) := by
  refine Ct.enter Try.func107 rfl (Nat.le_of_ble_eq_true rfl) ?_
  intro oo w R hS
  change RC _ _ _ _ _ _ [(0, _), (1, _), (2, _), (3, _)] _
  obtain ⟨lq, lh, seq, b, bq, bh, rfl, hI, hs0, hs1, hqn, hhn, hn, hS⟩ := sO_open hS
  refine RC.seq ?_
  refine RC.region rfl ?_
  refine RL.q (Qt.as rfl) ?_
  refine RL.nil ?_
  refine RE.sqN ?_
  refine RC.seq ?_
  refine RC.block ?_
  refine RC.seq ?_
  refine RC.region rfl ?_
  refine RL.q (Qt.mv rfl) ?_
  refine RL.q (Qt.eqlN rfl rfl) ?_
  refine RL.q (Qt.as rfl) ?_
  refine RL.nil ?_
  refine RE.sqN ?_
  -- stops: cond
  refine RC.condF rfl (rfl) ?_
  refine RC.seq ?_
  refine RC.region rfl ?_
  refine RL.q (Qt.mv rfl) ?_
  refine RL.q (Qt.lss rfl rfl) ?_
  refine RL.q (Qt.mv rfl) ?_
  refine RLG.start 17 false rfl ?_
  refine RLG.q rfl rfl rfl (fun _ => Qt.mv rfl) ?_
  refine RLG.q rfl rfl rfl (fun _ => Qt.mv rfl) ?_
  refine RLG.q rfl rfl rfl (fun _ => Qt.nil rfl) ?_
  refine RLG.q rfl rfl rfl (fun _ => Qt.fld rfl) ?_
  refine RLG.q rfl rfl rfl (fun hg => by (try simp only [decide_eq_false_iff_not] at hg); exact Qt.ld rfl (by first | exact hS.at 0 rfl | exact hS.at 1 rfl | exact hS.at 2 rfl | exact hS.at 3 rfl) (by first  | rfl)) ?_
  refine RLG.q rfl rfl rfl (fun hg => by (try simp only [decide_eq_false_iff_not] at hg); exact Qt.geq rfl rfl) ?_
  refine RLG.or rfl rfl ?_
  refine RL.q (Qt.mv rfl) ?_
  refine RLG.start 25 false rfl ?_
  refine RLG.q rfl rfl rfl (fun _ => Qt.mv rfl) ?_
  refine RLG.q rfl rfl rfl (fun _ => Qt.not rfl) ?_
  refine RLG.or rfl rfl ?_
  refine RL.q (Qt.as rfl) ?_
  refine RL.nil ?_
  refine RE.sqN ?_
  -- stops: cond
  have hS := sO_shut hI hs0 hs1 hS
  refine RC.cond rfl (fun h => ?_) (fun h => ?_)
  · refine RC.seq ?_
    refine RC.region rfl ?_
    refine RL.q (Qt.as rfl) ?_
    refine RL.nil ?_
    refine RE.sqN ?_
    refine RC.ret ?_
    refine RE.bkR ?_
    refine RE.sqR ?_
    -- stops: end ret
    have h : id < 0 ∨ id ≥ n ∨ r = false := by simpa [or_assoc] using h
    exact RE.retB rfl ⟨by rw [kErr_range h]; rfl, rfl⟩ hS
  · skip
    have h : ¬ (id < 0 ∨ id ≥ n ∨ r = false) := by
      simp at h ⊢
      exact ⟨h.1.1, h.1.2, h.2⟩
    refine RC.skip ?_
    refine RE.bkN ?_
    refine RE.sqN ?_
    refine RC.seq ?_
    refine RC.region rfl ?_
    refine RL.q (Qt.mv rfl) ?_
    refine RL.q (Qt.mv rfl) ?_
    -- stops: op call
    refine RL.e (Ef.call hS (rdKey _ n most B l id) rfl rfl Try.call59 [0] [1] (by decide) rfl rfl) ?_
    rintro v32 w ⟨ps, ⟨rfl, rfl⟩, hS⟩
    refine RL.q (Qt.mv rfl) ?_
    refine RL.q (Qt.ext rfl rfl) ?_
    refine RL.q (Qt.ext rfl rfl) ?_
    refine RL.e (Ef.alloc hS) ?_
    rintro _ w ⟨b9, rfl, hS⟩
    try simp (disch := omega) only [cells_agg'] at hS
    first | refine RL.e0 (Ef.st hS 0 rfl rfl rfl (by rfl) (by rfl) (by first | exact Nat.le_of_ble_eq_true rfl | omega | (simp only [Array.size_map]; omega))) ?_ | refine RL.e0 (Ef.st hS 1 rfl rfl rfl (by rfl) (by rfl) (by first | exact Nat.le_of_ble_eq_true rfl | omega | (simp only [Array.size_map]; omega))) ?_ | refine RL.e0 (Ef.st hS 2 rfl rfl rfl (by rfl) (by rfl) (by first | exact Nat.le_of_ble_eq_true rfl | omega | (simp only [Array.size_map]; omega))) ?_
    intro _ w hS
    simp (disch := omega) only [List.set_cons_zero, cells_agg'] at hS
    refine RL.q (Qt.as rfl) ?_
    refine RL.nil ?_
    refine RE.sqN ?_
    refine RC.seq ?_
    refine RC.block ?_
    refine RC.seq ?_
    refine RC.region rfl ?_
    refine RL.q (Qt.mv rfl) ?_
    refine RL.q (Qt.mv rfl) ?_
    refine RLG.start 37 true rfl ?_
    refine RLG.q rfl rfl rfl (fun _ => Qt.mv rfl) ?_
    refine RLG.q rfl rfl rfl (fun _ => Qt.not rfl) ?_
    refine RLG.and rfl rfl ?_
    refine RL.q (Qt.as rfl) ?_
    refine RL.nil ?_
    refine RE.sqN ?_
    -- stops: cond
    refine RC.cond rfl (fun h2 => ?_) (fun h2 => ?_)
    · refine RC.seq ?_
      refine RC.region rfl ?_
      refine RL.q (Qt.as rfl) ?_
      refine RL.nil ?_
      refine RE.sqN ?_
      refine RC.ret ?_
      refine RE.bkR ?_
      refine RE.sqR ?_
      -- stops: end ret
      have h2 : t = true ∧ id ∉ kIds l := by simpa [kGetOk] using h2
      obtain ⟨ht, h5⟩ := h2
      subst ht
      exact RE.retB rfl ⟨by rw [kErr_none h h5]; rfl, rfl⟩ (hS.pick [1, 2] (by decide) rfl)
    · skip
      refine RC.seq ?_
      refine RC.region rfl ?_
      refine RL.q (Qt.mv rfl) ?_
      refine RL.q (Qt.not rfl) ?_
      refine RL.q (Qt.mv rfl) ?_
      refine RLG.start 44 true rfl ?_
      refine RLG.q rfl rfl rfl (fun _ => Qt.mv rfl) ?_
      refine RLG.and rfl rfl ?_
      refine RL.q (Qt.as rfl) ?_
      refine RL.nil ?_
      refine RE.sqN ?_
      -- stops: cond
      refine RC.cond rfl (fun h3 => ?_) (fun h3 => ?_)
      · refine RC.seq ?_
        refine RC.region rfl ?_
        refine RL.q (Qt.as rfl) ?_
        refine RL.nil ?_
        refine RE.sqN ?_
        refine RC.ret ?_
        refine RE.bkR ?_
        refine RE.sqR ?_
        -- stops: end ret
        have h3 : t = false ∧ id ∈ kIds l := by simpa [kGetOk] using h3
        obtain ⟨ht, h5⟩ := h3
        subst ht
        exact RE.retB rfl ⟨by rw [kErr_known h h5]; rfl, rfl⟩ (hS.pick [1, 2] (by decide) rfl)
      · refine RC.skip ?_
        refine RE.bkN ?_
        refine RE.sqN ?_
        refine RC.seq ?_
        refine RC.region rfl ?_
        refine RL.q (Qt.as rfl) ?_
        refine RL.nil ?_
        refine RE.sqN ?_
        refine RC.ret ?_
        -- stops: end ret
        have h2 : t = true → id ∈ kIds l := by simpa [kGetOk] using h2
        have h3 : t = false → id ∉ kIds l := by simpa [kGetOk] using h3
        have he : kErr l n id r t = 0 := by
          cases t with
          | true => exact kErr_ok1 h (h2 rfl)
          | false => exact kErr_ok0 h (h3 rfl)
        exact RE.retB rfl ⟨by rw [he]; rfl, rfl⟩ (hS.pick [1, 2] (by decide) rfl)
end Go.Proofs

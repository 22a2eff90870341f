/- The law BitqFirst answers true: of one level they are popped as they were pushed. -/
import Derived.Test.YtfloihcepfpefaaBq5
import Derived.Test.YtfloihcepfpefaaBqT
namespace Go.Proofs
open Go Go.Gx
variable {oo : World}

theorem rIds_length_le (l : List RItem) (v : Int) : (rIds l v).length ≤ l.length := by
  rw [rIds, List.length_map]; exact List.length_filter_le _ _

theorem bqListP (p : Value) (n : Nat) (l : List RItem) (lv : Int) (hlv : 0 ≤ lv ∧ lv ≤ 255) : Ct Try.prog 18 #[p, .int .u8 lv] [qO p n l] (fun v ps => ps = [ownI v (rIds l lv), qO p n l]) := fun oo w R hS => by
  obtain ⟨q, W, b, bl, cap, c, cl, hp, hq, _⟩ := qO_open hS
  subst hp
  have h1 := hq.ri.lenLe
  have h2 := hq.max
  have h3 := rIds_length_le l lv
  exact bqList b n l lv hlv (by omega) oo w R hS

/-- The top's level is the highest one; its id is that level's first. -/
theorem top_facts {l : List RItem} (hne : l ≠ []) : (∀ y ∈ l, y.lv ≤ topLv l) ∧ ∃ t, rIds l (topLv l) = topId l :: t := by
  rcases rtop_spec l with ⟨h1, _⟩ | ⟨i, hi, h1, h2⟩
  · exact absurd h1 hne
  · have h0 : ¬ rtop l < 0 := by omega
    have hg : rget l (rtop l) = l[i] := by rw [h1, rget]; simp [hi]
    have hlv : topLv l = l[i].lv := by rw [topLv, if_neg h0, hg]
    have hid : topId l = l[i].id := by rw [topId, if_neg h0, hg]
    refine ⟨fun y hy => ?_, ?_⟩
    · obtain ⟨j, hj, rfl⟩ := List.getElem_of_mem hy
      rw [hlv]; exact (h2 j hj).1
    · have hl : l = l.take i ++ l[i] :: l.drop (i + 1) := by rw [← List.drop_eq_getElem_cons hi, List.take_append_drop]
      have hA : ∀ y ∈ l.take i, ¬ y.lv = l[i].lv := fun y hy e => by
        obtain ⟨j, hj, rfl⟩ := List.getElem_of_mem hy
        simp only [List.length_take] at hj
        have := (h2 j (by omega)).2 (by omega)
        rw [List.getElem_take] at e
        omega
      refine ⟨rIds (l.drop (i + 1)) l[i].lv, ?_⟩
      have : rIds l l[i].lv = rIds (l.take i ++ l[i] :: l.drop (i + 1)) l[i].lv := by rw [← hl]
      rw [hlv, hid, this]
      unfold rIds
      rw [List.filter_append, List.filter_eq_nil_iff.2 (fun y hy => by simpa using hA y hy), List.filter_cons]
      simp

theorem pop_level {m : List RItem} {lv a : Int} {t : List Int} (hn : (m.map RItem.id).Nodup) (hle : ∀ y ∈ m, y.lv ≤ lv) (hr : rIds m lv = a :: t) : topOk m = true ∧ topLv m = lv ∧ topId m = a ∧ rIds (rPop m) lv = t ∧ ∀ y ∈ rPop m, y.lv ≤ lv := by
  have hne : m ≠ [] := fun e => by subst e; simp [rIds] at hr
  obtain ⟨h1, t', h2⟩ := top_facts hne
  obtain ⟨g1, ⟨x, hx, g2, g3⟩, g4, g5, g6⟩ := pop_facts hn hne
  have hlv : topLv m = lv := by
    have ha : a ∈ rIds m lv := by rw [hr]; simp
    obtain ⟨y, hy, hyl, _⟩ := mem_rIds.1 ha
    have a1 := h1 y hy
    have a2 := hle x hx
    omega
  rw [hlv, hr] at h2
  injection h2 with h2 h3
  refine ⟨g1, hlv, h2.symm, ?_, fun y hy => hle y (g6 y hy).1⟩
  rw [g4, rIds_without, hr, ← h2]
  have hnd := rIds_nodup hn lv
  rw [hr] at hnd
  exact filter_ne_split (A := []) hnd

set_option maxHeartbeats 2000000 in
theorem bqLawFirst (n : Int) (hn : 0 ≤ n ∧ n ≤ 255) (v : Value) (ds : List Deed) (F0 : Frag) (hR : DeedsAt v ds F0) (hd : ∀ x ∈ ds, x.ok) : Ct Try.prog 5 #[.int .u8 n, v] [pin F0] (fun v' ps => v' = .bool true ∧ ps = [pin F0]) := by
  refine Ct.enter Try.func5 rfl (Nat.le_of_ble_eq_true rfl) ?_
  intro oo w R hS
  change RC _ _ _ _ _ _ [(0, _), (1, _)] _
  refine RC.seq ?_
  refine RC.region rfl ?_
  refine RL.q (Qt.as rfl) ?_
  refine RL.nil ?_
  refine RE.sqN ?_
  refine RC.seq ?_
  refine RC.region rfl ?_
  refine RL.q (Qt.mv rfl) ?_
  refine RL.q (Qt.mv rfl) ?_
  -- stops: op call
  refine RL.e (Ef.call hS (bqPlay n hn v ds F0 hR hd) rfl rfl Try.call11 [0] [1] (by decide) rfl rfl) ?_
  rintro v19 w ⟨ps, ⟨p, r, l, rfl, rfl⟩, hS⟩
  refine RL.q (Qt.mv rfl) ?_
  refine RL.q (Qt.ext rfl rfl) ?_
  refine RL.q (Qt.ext rfl rfl) ?_
  refine RL.q (Qt.ext rfl rfl) ?_
  refine RL.q (Qt.as rfl) ?_
  refine RL.q (Qt.as rfl) ?_
  refine RL.q (Qt.as rfl) ?_
  refine RL.nil ?_
  refine RE.sqN ?_
  refine RC.seq ?_
  refine RC.seq ?_
  refine RC.region rfl ?_
  -- stops: op call
  refine RL.e (Ef.call hS (bqLive) rfl rfl Try.call12 [] [0, 1, 2, 3] (by decide) rfl rfl) ?_
  rintro v23 w ⟨ps, ⟨rfl, p', l', rfl⟩, hS⟩
  refine RL.q (Qt.not rfl) ?_
  refine RL.q (Qt.mv rfl) ?_
  refine RLG.start 25 false rfl ?_
  refine RLG.q rfl rfl rfl (fun _ => Qt.mv rfl) ?_
  refine RLG.q rfl rfl rfl (fun _ => Qt.not rfl) ?_
  refine RLG.or rfl rfl ?_
  refine RL.nil ?_
  refine RE.sqN ?_
  -- stops: cond
  refine RC.condF rfl (rfl) ?_
  refine RC.skip ?_
  refine RE.sqN ?_
  refine RC.seq ?_
  refine RC.region rfl ?_
  refine RL.q (Qt.mv rfl) ?_
  -- stops: op call
  refine RL.e (Ef.call hS (bqTopT p _ l) rfl rfl Try.call16 [1] [0, 2, 3, 4] (by decide) rfl rfl) ?_
  rintro v31 w ⟨ps, ⟨rfl, rfl⟩, hS⟩
  refine RL.q (Qt.mv rfl) ?_
  refine RL.q (Qt.ext rfl rfl) ?_
  refine RL.q (Qt.ext rfl rfl) ?_
  refine RL.q (Qt.ext rfl rfl) ?_
  refine RL.q (Qt.as rfl) ?_
  refine RL.q (Qt.as rfl) ?_
  refine RL.q (Qt.as rfl) ?_
  refine RL.nil ?_
  refine RE.sqN ?_
  refine RC.seq ?_
  refine RC.seq ?_
  refine RC.region rfl ?_
  refine RL.q (Qt.mv rfl) ?_
  refine RL.q (Qt.not rfl) ?_
  refine RL.nil ?_
  refine RE.sqN ?_
  -- stops: cond
  have hq : ∃ q : BQ, RI q (n % 12 + 1).toNat l := by
    obtain ⟨q, _, _, _, _, _, _, _, hq, _⟩ := qO_open hS
    exact ⟨q, hq.ri⟩
  obtain ⟨q, hq⟩ := hq
  have hlen := hq.lenLe
  refine RC.cond rfl (fun h => ?_) (fun h => ?_)
  · skip
    have h : topOk l = false := by simpa using h
    have hl : l = [] := Classical.byContradiction fun hne => by
      have := (pop_facts hq.nodup hne).1
      rw [h] at this; cases this
    refine RC.seq ?_
    refine RC.region rfl ?_
    refine RL.q (Qt.mv rfl) ?_
    -- stops: op call
    refine RL.e (Ef.call hS (bqLen p _ l) rfl rfl Try.call13 [0] [1, 2, 3, 4] (by decide) rfl rfl) ?_
    rintro v38 w ⟨ps, ⟨rfl, rfl⟩, hS⟩
    refine RL.q (Qt.eql rfl rfl) ?_
    refine RL.q (Qt.as rfl) ?_
    refine RL.nil ?_
    refine RE.sqN ?_
    refine RC.ret ?_
    refine RE.sqR ?_
    -- stops: end ret
    refine RE.retB rfl ⟨by simp [oneOf, hl], rfl⟩ (hS.pick [3, 4] (by decide) rfl)
  · skip
    have h : topOk l = true := by simpa using h
    have hne : l ≠ [] := fun e => by subst e; cases h
    obtain ⟨f1, t0, f2⟩ := top_facts hne
    have hlv : 0 ≤ topLv l ∧ topLv l ≤ 255 := by
      obtain ⟨_, ⟨x, hx, g2, _⟩, _⟩ := pop_facts hq.nodup hne
      rw [← g2]; exact (hq.range x hx).2
    have hrl := rIds_length_le l (topLv l)
    refine RC.skip ?_
    refine RE.sqN ?_
    refine RC.seq ?_
    refine RC.region rfl ?_
    refine RL.q (Qt.mv rfl) ?_
    refine RL.q (Qt.mv rfl) ?_
    -- stops: op call
    refine RL.e (Ef.call hS (bqListP p _ l (topLv l) hlv) rfl rfl Try.call18 [0] [1, 2, 3, 4] (by decide) rfl rfl) ?_
    rintro v42 w ⟨ps, rfl, hS⟩
    refine RL.q (Qt.as rfl) ?_
    refine RL.nil ?_
    refine RE.sqN ?_
    refine RC.seq ?_
    refine RC.seq ?_
    refine RC.region rfl ?_
    refine RL.q (Qt.as rfl) ?_
    refine RL.nil ?_
    refine RE.sqN ?_
    refine RC.block ?_
    -- stops: loop
    obtain ⟨sp, cap, rfl⟩ := hS.ownForm 0 rfl
    refine RC.loop (γ := Nat × List RItem) (fun g E w' => E = [(12, .int .i64 g.1), (11, .slice sp (rIds l (topLv l)).length cap), (8, .int .u8 (topLv l)), (5, p)] ∧ Sat oo w' [ownI (.slice sp (rIds l (topLv l)).length cap) (rIds l (topLv l)), qO p (n % 12 + 1).toNat g.2, pin F0, R] ∧ g.1 ≤ (rIds l (topLv l)).length ∧ rIds g.2 (topLv l) = (rIds l (topLv l)).drop g.1 ∧ (∀ y ∈ g.2, y.lv ≤ topLv l)) (fun g => (rIds l (topLv l)).length - g.1) (0, l) _ (by (repeat (first | exact Sub.nil | refine Sub.cons rfl ?_))) ⟨rfl, hS.pick [0, 1, 4, 5] (by decide) rfl, by simp, by simp, f1⟩ ?_
    clear hS
    rintro ⟨k, m⟩ E w ⟨rfl, hS, hk, hm, hle⟩
    dsimp only at hk hm hle
    refine RC.seq ?_
    refine RC.seq ?_
    refine RC.region rfl ?_
    refine RL.q (Qt.mv rfl) ?_
    refine RL.q (Qt.mv rfl) ?_
    refine RL.q (Qt.lenS rfl) ?_
    refine RL.q (Qt.lss rfl rfl) ?_
    refine RL.nil ?_
    refine RE.sqN ?_
    -- stops: cond
    refine RC.cond rfl (fun h2 => ?_) (fun h2 => ?_)
    · skip
      have hlt : k < (rIds l (topLv l)).length := by simpa using h2
      have hnd : (m.map RItem.id).Nodup := by
        obtain ⟨_, _, _, _, _, _, _, _, hq, _⟩ := qO_open (hS.pick [1, 0, 2, 3] (by decide) rfl)
        exact hq.ri.nodup
      rw [List.drop_eq_getElem_cons hlt] at hm
      obtain ⟨t1, t2, t3, t4, t5⟩ := pop_level hnd hle hm
      obtain ⟨bs, cap', c, hv, hc1, hc2, hc3, hc4, hS⟩ := hS.ownPos 0 rfl (by omega)
      cases hv
      refine RC.skip ?_
      refine RE.sqN ?_
      refine RC.seq ?_
      refine RC.block ?_
      refine RC.seq ?_
      refine RC.region rfl ?_
      refine RL.q (Qt.mv rfl) ?_
      -- stops: op call
      refine RL.e (Ef.call hS (bqPopT p _ m) rfl rfl Try.call14 [1] [0, 2, 3] (by decide) rfl rfl) ?_
      rintro v51 w ⟨ps, ⟨rfl, rfl⟩, hS⟩
      refine RL.q (Qt.mv rfl) ?_
      refine RL.q (Qt.ext rfl rfl) ?_
      refine RL.q (Qt.ext rfl rfl) ?_
      refine RL.q (Qt.ext rfl rfl) ?_
      refine RL.q (Qt.as rfl) ?_
      refine RL.q (Qt.as rfl) ?_
      refine RL.q (Qt.as rfl) ?_
      refine RL.nil ?_
      refine RE.sqN ?_
      refine RC.seq ?_
      refine RC.region rfl ?_
      refine RL.q (Qt.mv rfl) ?_
      refine RL.q (Qt.not rfl) ?_
      refine RL.q (Qt.mv rfl) ?_
      refine RLG.start 57 false rfl ?_
      refine RLG.q rfl rfl rfl (fun _ => Qt.mv rfl) ?_
      refine RLG.q rfl rfl rfl (fun _ => Qt.mv rfl) ?_
      refine RLG.q rfl rfl rfl (fun hg => by (try simp only [decide_eq_true_eq, decide_eq_false_iff_not, Bool.or_eq_false_iff, Bool.and_eq_true, Bool.not_eq_true, Bool.not_eq_false, Option.isSome_some, Option.isNone_some] at hg); exact Qt.neq rfl rfl) ?_
      refine RLG.or rfl rfl ?_
      refine RL.q (Qt.mv rfl) ?_
      refine RLG.start 62 false rfl ?_
      refine RLG.q rfl rfl rfl (fun _ => Qt.mv rfl) ?_
      refine RLG.q rfl rfl rfl (fun _ => Qt.mv rfl) ?_
      refine RLG.q rfl rfl rfl (fun _ => Qt.mv rfl) ?_
      refine RLG.q rfl rfl rfl (fun hg => by (try simp only [decide_eq_false_iff_not, Bool.or_eq_false_iff] at hg); exact Qt.ixS rfl rfl (by first | assumption | omega) (by first | assumption | omega)) ?_
      refine RLG.q rfl rfl rfl (fun hg => by (try simp only [decide_eq_false_iff_not, Bool.or_eq_false_iff] at hg); exact Qt.ld rfl (by first | exact hS.at 0 rfl | exact hS.at 1 rfl | exact hS.at 2 rfl | exact hS.at 3 rfl) (by first | exact int_cell hc4 rfl hlt | rfl)) ?_
      refine RLG.q rfl rfl rfl (fun hg => by (try simp only [decide_eq_false_iff_not, Bool.or_eq_false_iff] at hg); exact Qt.neq rfl rfl) ?_
      refine RLG.or rfl rfl ?_
      refine RL.nil ?_
      refine RE.sqN ?_
      -- stops: cond
      refine RC.condF rfl (by simp [t1, t2, t3]) ?_
      refine RC.skip ?_
      refine RE.bkN ?_
      refine RE.sqN ?_
      refine RC.region rfl ?_
      refine RL.q (Qt.mv rfl) ?_
      refine RL.q ((by first | exact Qt.addI rfl rfl (by dsimp only [inK]; omega) | exact Qt.add rfl rfl)) ?_
      refine RL.q (Qt.as rfl) ?_
      refine RL.nil ?_
      -- stops: next
      have hS := hS.pick [1, 0, 2, 3] (by decide) rfl
      have hS := hS.ownMk (cap := cap) (n := (rIds l (topLv l)).length) (sz := 1) (cs := ints (rIds l (topLv l))) 0 rfl hc1 hc2 hc3 hc4
      apply RE.lpN ((k + 1, rPop m))
      case hI => exact ⟨rfl, hS, hlt, t4, t5⟩
      case hs => (repeat (first | exact Sub.nil | refine Sub.cons rfl ?_))
      case hm =>
        show (rIds l (topLv l)).length - (k + 1) < (rIds l (topLv l)).length - k
        omega
    · skip
      have hge : k = (rIds l (topLv l)).length := by
        have : ¬ k < (rIds l (topLv l)).length := by simpa using h2
        omega
      rw [hge, List.drop_length] at hm
      refine RC.exit ?_
      refine RE.sqX ?_
      refine RE.lpX ?_
      refine RE.bkX ?_
      refine RE.sqN ?_
      refine RC.seq ?_
      refine RC.region rfl ?_
      refine RL.q (Qt.mv rfl) ?_
      refine RL.q (Qt.mv rfl) ?_
      -- stops: op call
      refine RL.e (Ef.call hS (bqListP p _ m (topLv l) hlv) rfl rfl Try.call18 [1] [0, 2, 3] (by decide) rfl rfl) ?_
      rintro v72 w ⟨ps, rfl, hS⟩
      rw [hm] at hS
      obtain ⟨sp2, cap2, rfl⟩ := hS.ownForm 0 rfl
      refine RL.q (Qt.lenS rfl) ?_
      refine RL.q (Qt.eql rfl rfl) ?_
      refine RL.q (Qt.mv rfl) ?_
      refine RLG.start 75 true rfl ?_
      refine RLG.q rfl rfl rfl (fun _ => Qt.mv rfl) ?_
      refine RLG.q rfl rfl rfl (fun _ => Qt.lenS rfl) ?_
      refine RLG.q rfl rfl rfl (fun hg => by (try simp only [decide_eq_true_eq] at hg); exact Qt.gtr rfl rfl) ?_
      refine RLG.and rfl rfl ?_
      refine RL.q (Qt.as rfl) ?_
      refine RL.nil ?_
      refine RE.sqN ?_
      refine RC.ret ?_
      -- stops: end ret
      refine RE.retB rfl ⟨?_, rfl⟩ (hS.pick [3, 4] (by decide) rfl)
      have : 0 < (rIds l (topLv l)).length := by rw [f2]; simp
      simp only [oneOf, List.length_nil, Value.bool.injEq, Bool.and_eq_true, decide_eq_true_eq]
      omega
end Go.Proofs

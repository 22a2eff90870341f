/- The laws BitqTop and BitqFalls: they answer true. -/
import Derived.Test.YtfloihcepfpefaaBqW
namespace Go.Proofs
open Go Go.Gx
variable {oo : World}

theorem Best.uniq {l : List RItem} {a lv a' lv' : Int} (h : Best l a lv) (h' : Best l a' lv') : a = a' := by
  rcases h with ⟨h1, h2⟩ | ⟨i, hi, h1, h2, h3⟩ <;> rcases h' with ⟨g1, g2⟩ | ⟨j, hj, g1, g2, g3⟩
  · omega
  · subst h1; simp at hj
  · subst g1; simp at hi
  · have a1 := h3 j hj
    have a2 := g3 i hi
    rcases Nat.lt_trichotomy i j with e | e | e
    · have := a2.2 e; omega
    · omega
    · have := a1.2 e; omega
theorem rtop_snoc (l : List RItem) (y : RItem) : rtop (l ++ [y]) = if rtop l < 0 ∨ y.lv > (rget l (rtop l)).lv then (l.length : Int) else rtop l := by
  obtain ⟨lv1, h1⟩ := rtopFrom_spec l [] (-1) 0 (.inl ⟨rfl, rfl⟩)
  obtain ⟨lv2, h2⟩ := rtopFrom_spec (l ++ [y]) [] (-1) 0 (.inl ⟨rfl, rfl⟩)
  simp only [List.nil_append, List.length_nil] at h1 h2
  change Best l (rtop l) lv1 at h1
  change Best (l ++ [y]) (rtop (l ++ [y])) lv2 at h2
  have h3 := (h1.next y).uniq h2
  rw [← h3]
  rcases h1 with ⟨e1, e2⟩ | ⟨i, hi, e1, e2, _⟩
  · rw [if_pos (by omega), if_pos (by omega)]
  · have : (rget l (rtop l)).lv = lv1 := by rw [e1, e2, rget]; simp [hi]
    rw [this]
theorem rget_snoc_last (l : List RItem) (y : RItem) : rget (l ++ [y]) l.length = y := by simp [rget]
theorem rget_snoc_old (l : List RItem) (y : RItem) {a : Int} (h0 : 0 ≤ a) (h1 : a < l.length) : rget (l ++ [y]) a = rget l a := by
  have : a.toNat < l.length := by omega
  simp [rget, List.getElem?_append_left this]

theorem top_snoc_new (l : List RItem) (y : RItem) (h : topOk l = false ∨ y.lv > topLv l) : topOk (l ++ [y]) = true ∧ topLv (l ++ [y]) = y.lv ∧ topId (l ++ [y]) = y.id := by
  have hr := rtop_range l
  have e : rtop (l ++ [y]) = l.length := by
    rw [rtop_snoc, if_pos]
    by_cases hn : rtop l < 0
    · exact .inl hn
    · refine .inr ?_
      rcases h with h | h
      · simp [topOk] at h; omega
      · rwa [topLv, if_neg hn] at h
  have hl : (0 : Int) ≤ l.length := Int.natCast_nonneg _
  refine ⟨by rw [topOk, e]; simp, ?_, ?_⟩
  · rw [topLv, e, if_neg (by omega), rget_snoc_last]
  · rw [topId, e, if_neg (by omega), rget_snoc_last]
theorem top_snoc_old (l : List RItem) (y : RItem) (h : ¬ (topOk l = false ∨ y.lv > topLv l)) : topOk (l ++ [y]) = true ∧ topLv (l ++ [y]) = topLv l ∧ topId (l ++ [y]) = topId l := by
  have hr := rtop_range l
  have hn : ¬ rtop l < 0 := fun e => h (.inl (by simp [topOk]; omega))
  have hv : ¬ y.lv > (rget l (rtop l)).lv := fun e => h (.inr (by rwa [topLv, if_neg hn]))
  have e : rtop (l ++ [y]) = rtop l := by
    rw [rtop_snoc, if_neg]
    rintro (e | e)
    · exact hn e
    · exact hv e
  refine ⟨by rw [topOk, e]; simpa using hn, ?_, ?_⟩
  · rw [topLv, topLv, e, if_neg hn, if_neg hn, rget_snoc_old l y (by omega) (by omega)]
  · rw [topId, topId, e, if_neg hn, if_neg hn, rget_snoc_old l y (by omega) (by omega)]

set_option maxHeartbeats 2000000 in
theorem bqLawTop (n : Int) (hn : 0 ≤ n ∧ n ≤ 255) (v : Value) (ds : List Deed) (x : Deed) (F0 : Frag) (hR : DeedsAt v ds F0) (hd : ∀ x ∈ ds, x.ok) (hx : x.ok) : Ct Try.prog 4 #[.int .u8 n, v, x.val] [pin F0] (fun v' ps => v' = .bool true ∧ ps = [pin F0]) := by
  refine Ct.enter Try.func4 rfl (Nat.le_of_ble_eq_true rfl) ?_
  intro oo w R hS
  change RC _ _ _ _ _ _ [(0, _), (1, _), (2, _)] _
  refine RC.seq ?_
  refine RC.region rfl ?_
  refine RL.e (Ef.box hS rfl) ?_
  rintro _ w ⟨b5, rfl, hS⟩
  try simp (disch := omega) only [List.set_cons_zero, List.set_cons_succ, cells_int, cells_bool, cells_ptr, cells_slice, cells_func, cells_agg, cells_map, cells_int', cells_bool', cells_ptr', cells_slice', cells_agg', cells_map', cells_func', Nat.zero_add, wr, List.setIfInBounds_toArray] at hS
  refine RL.q (Qt.as rfl) ?_
  refine RL.nil ?_
  refine RE.sqN ?_
  refine RC.seq ?_
  refine RC.region rfl ?_
  refine RL.q (Qt.mv rfl) ?_
  refine RL.q (Qt.mv rfl) ?_
  -- stops: op call
  refine RL.e (Ef.call hS (bqPlay n hn v ds F0 hR hd) rfl rfl Try.call11 [1] [0, 2] (by decide) rfl rfl) ?_
  rintro v22 w ⟨ps, ⟨p, r, l, rfl, rfl⟩, hS⟩
  refine RL.q (Qt.mv rfl) ?_
  refine RL.q (Qt.ext rfl rfl) ?_
  refine RL.q (Qt.ext rfl rfl) ?_
  refine RL.q (Qt.ext rfl rfl) ?_
  refine RL.q (Qt.as rfl) ?_
  refine RL.q (Qt.as rfl) ?_
  refine RL.q (Qt.as rfl) ?_
  refine RL.nil ?_
  refine RE.sqN ?_
  refine RC.seq ?_
  refine RC.seq ?_
  refine RC.region rfl ?_
  -- stops: op call
  refine RL.e (Ef.call hS (bqLive) rfl rfl Try.call12 [] [0, 1, 2, 3, 4] (by decide) rfl rfl) ?_
  rintro v26 w ⟨ps, ⟨rfl, p', l', rfl⟩, hS⟩
  refine RL.q (Qt.not rfl) ?_
  refine RL.q (Qt.mv rfl) ?_
  refine RLG.start 28 false rfl ?_
  refine RLG.q rfl rfl rfl (fun _ => Qt.mv rfl) ?_
  refine RLG.q rfl rfl rfl (fun _ => Qt.not rfl) ?_
  refine RLG.or rfl rfl ?_
  refine RL.nil ?_
  refine RE.sqN ?_
  -- stops: cond
  refine RC.condF rfl (rfl) ?_
  refine RC.skip ?_
  refine RE.sqN ?_
  refine RC.seq ?_
  refine RC.region rfl ?_
  refine RL.q (Qt.mv rfl) ?_
  -- stops: op call
  refine RL.e (Ef.call hS (bqTopT p _ l) rfl rfl Try.call16 [1] [0, 2, 3, 4, 5] (by decide) rfl rfl) ?_
  rintro v34 w ⟨ps, ⟨rfl, rfl⟩, hS⟩
  refine RL.q (Qt.mv rfl) ?_
  refine RL.q (Qt.ext rfl rfl) ?_
  refine RL.q (Qt.ext rfl rfl) ?_
  refine RL.q (Qt.ext rfl rfl) ?_
  refine RL.q (Qt.as rfl) ?_
  refine RL.q (Qt.as rfl) ?_
  refine RL.q (Qt.as rfl) ?_
  refine RL.nil ?_
  refine RE.sqN ?_
  refine RC.seq ?_
  refine RC.seq ?_
  refine RC.region rfl ?_
  refine RL.q (Qt.mv rfl) ?_
  refine RL.q (Qt.fld rfl) ?_
  refine RL.q (Qt.ld rfl (by first | exact hS.at 0 rfl | exact hS.at 1 rfl | exact hS.at 2 rfl | exact hS.at 3 rfl | exact hS.at 4 rfl | exact hS.at 5 rfl) (by first  | rfl)) ?_
  refine RL.q (Qt.fld rfl) ?_
  refine RL.q (Qt.ld rfl (by first | exact hS.at 0 rfl | exact hS.at 1 rfl | exact hS.at 2 rfl | exact hS.at 3 rfl | exact hS.at 4 rfl | exact hS.at 5 rfl) (by first  | rfl)) ?_
  -- stops: op call
  refine RL.e (Ef.call hS (bqPush p _ l x.lv x.id hx) rfl rfl Try.call17 [0] [1, 2, 3, 4, 5] (by decide) rfl rfl) ?_
  rintro v43 w ⟨ps, ⟨rfl, rfl⟩, hS⟩
  refine RL.q (Qt.neq rfl rfl) ?_
  refine RL.nil ?_
  refine RE.sqN ?_
  -- stops: cond
  refine RC.cond rfl (fun h => ?_) (fun h => ?_)
  · skip
    have h : ¬ rPushErr l (n % 12 + 1).toNat x.id = 0 := of_decide_eq_true h
    rw [show rPush l (n % 12 + 1).toNat x.lv x.id = l by simp [rPush, h]] at hS
    refine RC.seq ?_
    refine RC.region rfl ?_
    refine RL.q (Qt.mv rfl) ?_
    -- stops: op call
    refine RL.e (Ef.call hS (bqTopT p _ l) rfl rfl Try.call16 [0] [1, 2, 3, 4, 5] (by decide) rfl rfl) ?_
    rintro v47 w ⟨ps, ⟨rfl, rfl⟩, hS⟩
    refine RL.q (Qt.mv rfl) ?_
    refine RL.q (Qt.ext rfl rfl) ?_
    refine RL.q (Qt.ext rfl rfl) ?_
    refine RL.q (Qt.ext rfl rfl) ?_
    refine RL.q (Qt.as rfl) ?_
    refine RL.q (Qt.as rfl) ?_
    refine RL.q (Qt.as rfl) ?_
    refine RL.nil ?_
    refine RE.sqN ?_
    refine RC.seq ?_
    refine RC.region rfl ?_
    refine RL.q (Qt.mv rfl) ?_
    refine RL.q (Qt.mv rfl) ?_
    refine RL.q (Qt.eql rfl rfl) ?_
    refine RL.q (Qt.mv rfl) ?_
    refine RLG.start 54 true rfl ?_
    refine RLG.q rfl rfl rfl (fun _ => Qt.mv rfl) ?_
    refine RLG.q rfl rfl rfl (fun _ => Qt.mv rfl) ?_
    refine RLG.q rfl rfl rfl (fun hg => by (try simp only [decide_eq_true_eq] at hg); exact Qt.eql rfl rfl) ?_
    refine RLG.and rfl rfl ?_
    refine RL.q (Qt.mv rfl) ?_
    refine RLG.start 59 true rfl ?_
    refine RLG.q rfl rfl rfl (fun _ => Qt.mv rfl) ?_
    refine RLG.q rfl rfl rfl (fun _ => Qt.mv rfl) ?_
    refine RLG.q rfl rfl rfl (fun hg => by (try simp only [decide_eq_true_eq, Bool.and_eq_true] at hg); exact Qt.eqlB rfl rfl) ?_
    refine RLG.and rfl rfl ?_
    refine RL.q (Qt.as rfl) ?_
    refine RL.nil ?_
    refine RE.sqN ?_
    refine RC.ret ?_
    refine RE.sqR ?_
    -- stops: end ret
    refine RE.retB rfl ⟨by simp [oneOf], rfl⟩ (hS.pick [3, 5] (by decide) rfl)
  · skip
    have h : rPushErr l (n % 12 + 1).toNat x.id = 0 := by simpa using h
    rw [show rPush l (n % 12 + 1).toNat x.lv x.id = l ++ [⟨x.id, x.lv⟩] by simp [rPush, h]] at hS
    refine RC.skip ?_
    refine RE.sqN ?_
    refine RC.seq ?_
    refine RC.region rfl ?_
    refine RL.q (Qt.mv rfl) ?_
    -- stops: op call
    refine RL.e (Ef.call hS (bqTopT p _ _) rfl rfl Try.call16 [0] [1, 2, 3, 4, 5] (by decide) rfl rfl) ?_
    rintro v66 w ⟨ps, ⟨rfl, rfl⟩, hS⟩
    refine RL.q (Qt.mv rfl) ?_
    refine RL.q (Qt.ext rfl rfl) ?_
    refine RL.q (Qt.ext rfl rfl) ?_
    refine RL.q (Qt.ext rfl rfl) ?_
    refine RL.q (Qt.as rfl) ?_
    refine RL.q (Qt.as rfl) ?_
    refine RL.q (Qt.as rfl) ?_
    refine RL.nil ?_
    refine RE.sqN ?_
    refine RC.seq ?_
    refine RC.seq ?_
    refine RC.region rfl ?_
    refine RL.q (Qt.mv rfl) ?_
    refine RL.q (Qt.not rfl) ?_
    refine RL.q (Qt.mv rfl) ?_
    refine RLG.start 72 false rfl ?_
    refine RLG.q rfl rfl rfl (fun _ => Qt.fld rfl) ?_
    refine RLG.q rfl rfl rfl (fun hg => by (try simp only [decide_eq_true_eq, decide_eq_false_iff_not, Bool.or_eq_false_iff, Bool.and_eq_true, Bool.not_eq_true, Bool.not_eq_false, Option.isSome_some, Option.isNone_some] at hg); exact Qt.ld rfl (by first | exact hS.at 0 rfl | exact hS.at 1 rfl | exact hS.at 2 rfl | exact hS.at 3 rfl | exact hS.at 4 rfl | exact hS.at 5 rfl) (by first  | rfl)) ?_
    refine RLG.q rfl rfl rfl (fun _ => Qt.mv rfl) ?_
    refine RLG.q rfl rfl rfl (fun hg => by (try simp only [decide_eq_true_eq, decide_eq_false_iff_not, Bool.or_eq_false_iff, Bool.and_eq_true, Bool.not_eq_true, Bool.not_eq_false, Option.isSome_some, Option.isNone_some] at hg); exact Qt.gtr rfl rfl) ?_
    refine RLG.or rfl rfl ?_
    refine RL.nil ?_
    refine RE.sqN ?_
    -- stops: cond
    refine RC.cond rfl (fun h2 => ?_) (fun h2 => ?_)
    · refine RC.seq ?_
      refine RC.region rfl ?_
      refine RL.q (Qt.mv rfl) ?_
      refine RL.q (Qt.mv rfl) ?_
      refine RLG.start 79 true rfl ?_
      refine RLG.q rfl rfl rfl (fun _ => Qt.mv rfl) ?_
      refine RLG.q rfl rfl rfl (fun _ => Qt.fld rfl) ?_
      refine RLG.q rfl rfl rfl (fun hg => by (try simp only [decide_eq_true_eq, decide_eq_false_iff_not, Bool.or_eq_false_iff, Bool.and_eq_true, Bool.not_eq_true, Bool.not_eq_false, Option.isSome_some, Option.isNone_some] at hg); exact Qt.ld rfl (by first | exact hS.at 0 rfl | exact hS.at 1 rfl | exact hS.at 2 rfl | exact hS.at 3 rfl | exact hS.at 4 rfl | exact hS.at 5 rfl) (by first  | rfl)) ?_
      refine RLG.q rfl rfl rfl (fun hg => by (try simp only [decide_eq_true_eq, decide_eq_false_iff_not, Bool.or_eq_false_iff, Bool.and_eq_true, Bool.not_eq_true, Bool.not_eq_false, Option.isSome_some, Option.isNone_some] at hg); exact Qt.eql rfl rfl) ?_
      refine RLG.and rfl rfl ?_
      refine RL.q (Qt.mv rfl) ?_
      refine RLG.start 85 true rfl ?_
      refine RLG.q rfl rfl rfl (fun _ => Qt.mv rfl) ?_
      refine RLG.q rfl rfl rfl (fun _ => Qt.fld rfl) ?_
      refine RLG.q rfl rfl rfl (fun hg => by (try simp only [decide_eq_true_eq, Bool.and_eq_true] at hg); exact Qt.ld rfl (by first | exact hS.at 0 rfl | exact hS.at 1 rfl | exact hS.at 2 rfl | exact hS.at 3 rfl | exact hS.at 4 rfl | exact hS.at 5 rfl) (by first  | rfl)) ?_
      refine RLG.q rfl rfl rfl (fun hg => by (try simp only [decide_eq_true_eq, Bool.and_eq_true] at hg); exact Qt.eql rfl rfl) ?_
      refine RLG.and rfl rfl ?_
      refine RL.q (Qt.as rfl) ?_
      refine RL.nil ?_
      refine RE.sqN ?_
      refine RC.ret ?_
      refine RE.sqR ?_
      -- stops: end ret
      have h2 : topOk l = false ∨ x.lv > topLv l := by simpa using h2
      obtain ⟨t1, t2, t3⟩ := top_snoc_new l ⟨x.id, x.lv⟩ h2
      refine RE.retB rfl ⟨by simp [oneOf, t1, t2, t3], rfl⟩ (hS.pick [3, 5] (by decide) rfl)
    · refine RC.skip ?_
      refine RE.sqN ?_
      refine RC.seq ?_
      refine RC.region rfl ?_
      refine RL.q (Qt.mv rfl) ?_
      refine RL.q (Qt.mv rfl) ?_
      refine RLG.start 92 true rfl ?_
      refine RLG.q rfl rfl rfl (fun _ => Qt.mv rfl) ?_
      refine RLG.q rfl rfl rfl (fun _ => Qt.mv rfl) ?_
      refine RLG.q rfl rfl rfl (fun hg => by (try simp only [decide_eq_true_eq, decide_eq_false_iff_not, Bool.or_eq_false_iff, Bool.and_eq_true, Bool.not_eq_true, Bool.not_eq_false, Option.isSome_some, Option.isNone_some] at hg); exact Qt.eql rfl rfl) ?_
      refine RLG.and rfl rfl ?_
      refine RL.q (Qt.mv rfl) ?_
      refine RLG.start 97 true rfl ?_
      refine RLG.q rfl rfl rfl (fun _ => Qt.mv rfl) ?_
      refine RLG.q rfl rfl rfl (fun _ => Qt.mv rfl) ?_
      refine RLG.q rfl rfl rfl (fun hg => by (try simp only [decide_eq_true_eq, Bool.and_eq_true] at hg); exact Qt.eql rfl rfl) ?_
      refine RLG.and rfl rfl ?_
      refine RL.q (Qt.as rfl) ?_
      refine RL.nil ?_
      refine RE.sqN ?_
      refine RC.ret ?_
      -- stops: end ret
      have h2 : ¬ (topOk l = false ∨ x.lv > topLv l) := by simpa using h2
      obtain ⟨t1, t2, t3⟩ := top_snoc_old l ⟨x.id, x.lv⟩ h2
      refine RE.retB rfl ⟨by simp [oneOf, t1, t2, t3], rfl⟩ (hS.pick [3, 5] (by decide) rfl)

/-- Flags in an array of 12. -/
structure SB (sn : Int → Bool) (c : Array Value) : Prop where
  size : c.size = 12
  at' : ∀ i : Int, 0 ≤ i → i < 12 → c.toList[0 + i.toNat * 1]? = some (.bool (sn i))
theorem SB.set {sn : Int → Bool} {c : Array Value} (h : SB sn c) {i : Int} (h0 : 0 ≤ i) (h1 : i < 12) : SB (upd sn i true) (wr c (i.toNat * 1) [.bool true]) := by
  have hs := h.size
  have hg := wr1_get (c := c) (k := i.toNat * 1) (by omega) (.bool true)
  refine ⟨by rw [wr_size]; exact hs, fun u g0 g1 => ?_⟩
  rw [hg]
  by_cases e : u = i
  · subst e; rw [if_pos (by omega), upd_same]
  · rw [if_neg (by omega), upd_ne _ _ e]; exact h.at' u g0 g1

theorem pop_facts {l : List RItem} (hn : (l.map RItem.id).Nodup) (hne : l ≠ []) : topOk l = true ∧ (∃ x ∈ l, x.lv = topLv l ∧ x.id = topId l) ∧ rPop l = rWithout l (topId l) ∧ (rPop l).length + 1 = l.length ∧ ∀ y ∈ rPop l, y ∈ l ∧ y.lv ≤ topLv l ∧ y.id ≠ topId l := by
  rcases rtop_spec l with ⟨h1, _⟩ | ⟨i, hi, h1, h2⟩
  · exact absurd h1 hne
  · have h0 : ¬ rtop l < 0 := by omega
    have hg : rget l (rtop l) = l[i] := by rw [h1, rget]; simp [hi]
    have hlv : topLv l = l[i].lv := by rw [topLv, if_neg h0, hg]
    have hid : topId l = l[i].id := by rw [topId, if_neg h0, hg]
    have hr := rat_get hn hi
    have hp : rPop l = l.eraseIdx i := by rw [rPop, if_neg h0, h1, Int.toNat_natCast]
    have hw : rPop l = rWithout l (topId l) := by
      rw [hp, hid, ← rat_out hn (id := l[i].id) (by omega), hr, Int.toNat_natCast]
    refine ⟨by rw [topOk]; simpa using h0, ⟨l[i], List.getElem_mem hi, hlv.symm, hid.symm⟩, hw, ?_, ?_⟩
    · rw [hp, List.length_eraseIdx, if_pos hi]; omega
    · intro y hy
      rw [hw, rWithout, List.mem_filter] at hy
      obtain ⟨hy1, hy2⟩ := hy
      refine ⟨hy1, ?_, by simpa using hy2⟩
      obtain ⟨j, hj, rfl⟩ := List.getElem_of_mem hy1
      rw [hlv]; exact (h2 j hj).1
theorem pop_empty : topOk [] = false ∧ rPop [] = [] := ⟨rfl, rfl⟩

set_option maxHeartbeats 2000000 in
theorem bqLawFalls (n : Int) (hn : 0 ≤ n ∧ n ≤ 255) (v : Value) (ds : List Deed) (F0 : Frag) (hR : DeedsAt v ds F0) (hd : ∀ x ∈ ds, x.ok) : Ct Try.prog 3 #[.int .u8 n, v] [pin F0] (fun v' ps => v' = .bool true ∧ ps = [pin F0]) := by
  refine Ct.enter Try.func3 rfl (Nat.le_of_ble_eq_true rfl) ?_
  intro oo w R hS
  change RC _ _ _ _ _ _ [(0, _), (1, _)] _
  refine RC.seq ?_
  refine RC.region rfl ?_
  refine RL.q (Qt.as rfl) ?_
  refine RL.nil ?_
  refine RE.sqN ?_
  refine RC.seq ?_
  refine RC.region rfl ?_
  refine RL.q (Qt.mv rfl) ?_
  refine RL.q (Qt.mv rfl) ?_
  -- stops: op call
  refine RL.e (Ef.call hS (bqPlay n hn v ds F0 hR hd) rfl rfl Try.call11 [0] [1] (by decide) rfl rfl) ?_
  rintro v18 w ⟨ps, ⟨p, r, l, rfl, rfl⟩, hS⟩
  refine RL.q (Qt.mv rfl) ?_
  refine RL.q (Qt.ext rfl rfl) ?_
  refine RL.q (Qt.ext rfl rfl) ?_
  refine RL.q (Qt.ext rfl rfl) ?_
  refine RL.q (Qt.as rfl) ?_
  refine RL.q (Qt.as rfl) ?_
  refine RL.q (Qt.as rfl) ?_
  refine RL.nil ?_
  refine RE.sqN ?_
  refine RC.seq ?_
  refine RC.seq ?_
  refine RC.region rfl ?_
  -- stops: op call
  refine RL.e (Ef.call hS (bqLive) rfl rfl Try.call12 [] [0, 1, 2, 3] (by decide) rfl rfl) ?_
  rintro v22 w ⟨ps, ⟨rfl, p', l', rfl⟩, hS⟩
  refine RL.q (Qt.not rfl) ?_
  refine RL.q (Qt.mv rfl) ?_
  refine RLG.start 24 false rfl ?_
  refine RLG.q rfl rfl rfl (fun _ => Qt.mv rfl) ?_
  refine RLG.q rfl rfl rfl (fun _ => Qt.not rfl) ?_
  refine RLG.or rfl rfl ?_
  refine RL.nil ?_
  refine RE.sqN ?_
  -- stops: cond
  refine RC.condF rfl (rfl) ?_
  refine RC.skip ?_
  refine RE.sqN ?_
  refine RC.seq ?_
  refine RC.region rfl ?_
  refine RL.q (Qt.mv rfl) ?_
  -- stops: op call
  refine RL.e (Ef.call hS (bqLen p _ l) rfl rfl Try.call13 [1] [0, 2, 3, 4] (by decide) rfl rfl) ?_
  rintro v29 w ⟨ps, ⟨rfl, rfl⟩, hS⟩
  refine RL.q (Qt.as rfl) ?_
  refine RL.nil ?_
  refine RE.sqN ?_
  refine RC.seq ?_
  refine RC.region rfl ?_
  refine RL.e (Ef.alloc hS) ?_
  rintro _ w ⟨b9, rfl, hS⟩
  try simp (disch := omega) only [cells_agg'] at hS
  refine RL.nil ?_
  refine RE.sqN ?_
  refine RC.seq ?_
  refine RC.region rfl ?_
  refine RL.q (Qt.as rfl) ?_
  refine RL.nil ?_
  refine RE.sqN ?_
  refine RC.seq ?_
  refine RC.seq ?_
  refine RC.region rfl ?_
  refine RL.q (Qt.as rfl) ?_
  refine RL.nil ?_
  refine RE.sqN ?_
  refine RC.block ?_
  -- stops: loop
  have hS := hS.pick [1, 0, 4, 5] (by decide) rfl
  have hlen : l.length ≤ 1024 := by
    obtain ⟨_, _, _, _, _, _, _, _, hq, _⟩ := qO_open hS
    have := hq.ri.lenLe
    have := hq.max
    omega
  obtain ⟨c0, hc0, hS⟩ : ∃ c, SB (fun _ => false) c ∧ Sat oo w [qO p (n % 12 + 1).toNat l, pt b9 (.cells c 29 (0, 0)), pin F0, R] := ⟨_, ⟨rfl, fun i a b => by
    rcases (show i = 0 ∨ i = 1 ∨ i = 2 ∨ i = 3 ∨ i = 4 ∨ i = 5 ∨ i = 6 ∨ i = 7 ∨ i = 8 ∨ i = 9 ∨ i = 10 ∨ i = 11 by omega) with rfl | rfl | rfl | rfl | rfl | rfl | rfl | rfl | rfl | rfl | rfl | rfl <;> rfl⟩, hS⟩
  refine RC.loop (γ := (Nat × List RItem) × (Int × (Int → Bool) × Array Value)) (fun g E w' => E = [(11, .int .i64 g.1.1), (10, .int .i64 g.2.1), (8, .int .i64 l.length), (9, .pointer (some ⟨b9, 0, none⟩)), (5, p)] ∧ Sat oo w' [qO p (n % 12 + 1).toNat g.1.2, pt b9 (.cells g.2.2.2 29 (0, 0)), pin F0, R] ∧ SB g.2.2.1 g.2.2.2 ∧ g.1.1 + g.1.2.length = l.length ∧ (∀ y ∈ g.1.2, y.lv ≤ g.2.1 ∧ g.2.2.1 y.id = false)) (fun g => l.length - g.1.1) ((0, l), (256, (fun _ => false), c0)) _ (by (repeat (first | exact Sub.nil | refine Sub.cons rfl ?_))) ⟨rfl, hS, hc0, by simp, ?_⟩ ?_
  · intro y hy
    obtain ⟨_, _, _, _, _, _, _, _, hq, _⟩ := qO_open hS
    have := (hq.ri.range y hy).2
    exact ⟨by dsimp only; omega, rfl⟩
  clear hS hc0
  rintro ⟨⟨k, m⟩, last, sn, c⟩ E w ⟨rfl, hS, hsb, hk, hm⟩
  dsimp only at hsb hk hm
  refine RC.seq ?_
  refine RC.seq ?_
  refine RC.region rfl ?_
  refine RL.q (Qt.mv rfl) ?_
  refine RL.q (Qt.mv rfl) ?_
  refine RL.q (Qt.lss rfl rfl) ?_
  refine RL.nil ?_
  refine RE.sqN ?_
  -- stops: cond
  refine RC.cond rfl (fun h => ?_) (fun h => ?_)
  · skip
    have h : k < l.length := by simpa using h
    have hne : m ≠ [] := by intro e; subst e; simp at hk; omega
    have hq : ∃ q : BQ, RI q (n % 12 + 1).toNat m := by
      obtain ⟨q, _, _, _, _, _, _, _, hq, _⟩ := qO_open hS
      exact ⟨q, hq.ri⟩
    obtain ⟨q, hq⟩ := hq
    obtain ⟨t1, ⟨x, hx, t2, t3⟩, t4, t5, t6⟩ := pop_facts hq.nodup hne
    have hrg := (hq.range x hx)
    rw [t2, t3] at hrg
    have hmx := hm x hx
    rw [t2, t3] at hmx
    have hsz := hsb.size
    refine RC.skip ?_
    refine RE.sqN ?_
    refine RC.seq ?_
    refine RC.block ?_
    refine RC.seq ?_
    refine RC.region rfl ?_
    refine RL.q (Qt.mv rfl) ?_
    -- stops: op call
    refine RL.e (Ef.call hS (bqPopT p _ m) rfl rfl Try.call14 [0] [1, 2, 3] (by decide) rfl rfl) ?_
    rintro v37 w ⟨ps, ⟨rfl, rfl⟩, hS⟩
    refine RL.q (Qt.mv rfl) ?_
    refine RL.q (Qt.ext rfl rfl) ?_
    refine RL.q (Qt.ext rfl rfl) ?_
    refine RL.q (Qt.ext rfl rfl) ?_
    refine RL.q (Qt.as rfl) ?_
    refine RL.q (Qt.as rfl) ?_
    refine RL.q (Qt.as rfl) ?_
    refine RL.nil ?_
    refine RE.sqN ?_
    refine RC.seq ?_
    refine RC.seq ?_
    refine RC.region rfl ?_
    refine RL.q (Qt.mv rfl) ?_
    refine RL.q (Qt.not rfl) ?_
    refine RL.q (Qt.mv rfl) ?_
    refine RLG.start 43 false rfl ?_
    refine RLG.q rfl rfl rfl (fun _ => Qt.mv rfl) ?_
    refine RLG.q rfl rfl rfl (fun hg => by (try simp only [decide_eq_true_eq, decide_eq_false_iff_not, Bool.or_eq_false_iff, Bool.and_eq_true, Bool.not_eq_true, Bool.not_eq_false, Option.isSome_some, Option.isNone_some] at hg); exact (by first | exact Qt.cvtI rfl (by dsimp only [inK]; omega) | exact Qt.cvt rfl)) ?_
    refine RLG.q rfl rfl rfl (fun _ => Qt.mv rfl) ?_
    refine RLG.q rfl rfl rfl (fun hg => by (try simp only [decide_eq_true_eq, decide_eq_false_iff_not, Bool.or_eq_false_iff, Bool.and_eq_true, Bool.not_eq_true, Bool.not_eq_false, Option.isSome_some, Option.isNone_some] at hg); exact Qt.gtr rfl rfl) ?_
    refine RLG.or rfl rfl ?_
    refine RL.q (Qt.mv rfl) ?_
    refine RLG.start 49 false rfl ?_
    refine RLG.q rfl rfl rfl (fun _ => Qt.mv rfl) ?_
    refine RLG.q rfl rfl rfl (fun hg => by (try simp only [decide_eq_false_iff_not, Bool.or_eq_false_iff] at hg); exact Qt.lss rfl rfl) ?_
    refine RLG.or rfl rfl ?_
    refine RL.q (Qt.mv rfl) ?_
    refine RLG.start 53 false rfl ?_
    refine RLG.q rfl rfl rfl (fun _ => Qt.mv rfl) ?_
    refine RLG.q rfl rfl rfl (fun hg => by (try simp only [decide_eq_false_iff_not, Bool.or_eq_false_iff] at hg); exact Qt.geq rfl rfl) ?_
    refine RLG.or rfl rfl ?_
    refine RL.q (Qt.mv rfl) ?_
    refine RLG.start 57 false rfl ?_
    refine RLG.q rfl rfl rfl (fun _ => Qt.mv rfl) ?_
    refine RLG.q rfl rfl rfl (fun hg => by (try simp only [decide_eq_false_iff_not, Bool.or_eq_false_iff] at hg); exact Qt.ixA rfl rfl (by first | assumption | omega) (by first | assumption | omega)) ?_
    refine RLG.q rfl rfl rfl (fun hg => by (try simp only [decide_eq_false_iff_not, Bool.or_eq_false_iff] at hg); exact Qt.ld rfl (by first | exact hS.at 0 rfl | exact hS.at 1 rfl | exact hS.at 2 rfl | exact hS.at 3 rfl) (by first | exact hsb.at' _ (by omega) (by omega) | rfl)) ?_
    refine RLG.or rfl rfl ?_
    refine RL.nil ?_
    refine RE.sqN ?_
    -- stops: cond
    refine RC.condF rfl (by simp [t1, hmx.2]; omega) ?_
    refine RC.skip ?_
    refine RE.sqN ?_
    refine RC.seq ?_
    refine RC.region rfl ?_
    refine RL.q (Qt.mv rfl) ?_
    refine RL.q (Qt.ixA rfl rfl (by first | assumption | omega) (by first | assumption | omega)) ?_
    first | refine RL.e0 (Ef.st hS 0 rfl rfl rfl (by rfl) (by rfl) (by first | exact Nat.le_of_ble_eq_true rfl | omega | (simp only [Array.size_map]; omega))) ?_ | refine RL.e0 (Ef.st hS 1 rfl rfl rfl (by rfl) (by rfl) (by first | exact Nat.le_of_ble_eq_true rfl | omega | (simp only []; omega))) ?_ | refine RL.e0 (Ef.st hS 2 rfl rfl rfl (by rfl) (by rfl) (by first | exact Nat.le_of_ble_eq_true rfl | omega | (simp only [Array.size_map]; omega))) ?_ | refine RL.e0 (Ef.st hS 3 rfl rfl rfl (by rfl) (by rfl) (by first | exact Nat.le_of_ble_eq_true rfl | omega | (simp only [Array.size_map]; omega))) ?_
    intro _ w hS
    simp (disch := omega) only [cells_bool', Nat.zero_add] at hS
    refine RL.nil ?_
    refine RE.sqN ?_
    refine RC.region rfl ?_
    refine RL.q (Qt.mv rfl) ?_
    refine RL.q ((by first | exact Qt.cvtI rfl (by dsimp only [inK]; omega) | exact Qt.cvt rfl)) ?_
    refine RL.q (Qt.as rfl) ?_
    refine RL.nil ?_
    refine RE.bkN ?_
    refine RE.sqN ?_
    refine RC.region rfl ?_
    refine RL.q (Qt.mv rfl) ?_
    refine RL.q ((by first | exact Qt.addI rfl rfl (by dsimp only [inK]; omega) | exact Qt.add rfl rfl)) ?_
    refine RL.q (Qt.as rfl) ?_
    refine RL.nil ?_
    -- stops: next
    apply RE.lpN (((k + 1, rPop m), (topLv m, upd sn (topId m) true, wr c ((topId m).toNat * 1) [.bool true])))
    case hI =>
      refine ⟨rfl, hS, hsb.set (by omega) (by omega), by dsimp only; omega, fun y hy => ?_⟩
      obtain ⟨y1, y2, y3⟩ := t6 y hy
      exact ⟨y2, by dsimp only; rw [upd_ne _ _ y3]; exact (hm y y1).2⟩
    case hs => (repeat (first | exact Sub.nil | refine Sub.cons rfl ?_))
    case hm =>
      show l.length - (k + 1) < l.length - k
      omega
  · skip
    have h : ¬ k < l.length := by simpa using h
    have e : m = [] := List.length_eq_zero_iff.1 (by omega)
    subst e
    refine RC.exit ?_
    refine RE.sqX ?_
    refine RE.lpX ?_
    refine RE.bkX ?_
    refine RE.sqN ?_
    refine RC.seq ?_
    refine RC.region rfl ?_
    refine RL.q (Qt.mv rfl) ?_
    -- stops: op call
    refine RL.e (Ef.call hS (bqPopT p _ []) rfl rfl Try.call14 [0] [1, 2, 3] (by decide) rfl rfl) ?_
    rintro v68 w ⟨ps, ⟨rfl, rfl⟩, hS⟩
    refine RL.q (Qt.mv rfl) ?_
    refine RL.q (Qt.ext rfl rfl) ?_
    refine RL.q (Qt.ext rfl rfl) ?_
    refine RL.q (Qt.ext rfl rfl) ?_
    refine RL.q (Qt.as rfl) ?_
    refine RL.nil ?_
    refine RE.sqN ?_
    refine RC.seq ?_
    refine RC.region rfl ?_
    refine RL.q (Qt.mv rfl) ?_
    refine RL.q (Qt.not rfl) ?_
    refine RL.q (Qt.mv rfl) ?_
    -- stops: guard
    refine RL.q (Qt.mv rfl) ?_ (Runs.guard rfl rfl rfl (rfl))
    -- stops: op call
    refine RL.e (Ef.call hS (bqLen p _ _) rfl rfl Try.call13 [0] [1, 2, 3] (by decide) rfl rfl) ?_ (Runs.guard rfl rfl rfl (rfl))
    rintro v76 w ⟨ps, ⟨rfl, rfl⟩, hS⟩
    refine RL.q (Qt.eql rfl rfl) ?_ (Runs.guard rfl rfl rfl (rfl))
    refine RL.q ((by first | exact Qt.pickT rfl (by assumption) rfl | exact Qt.pickF rfl (by assumption) rfl | exact Qt.pickT rfl rfl rfl | exact Qt.pickF rfl rfl rfl)) ?_
    refine RL.q (Qt.mv rfl) ?_
    -- stops: guard
    refine RL.q (Qt.mv rfl) ?_ (Runs.guard rfl rfl rfl (rfl))
    -- stops: op call
    refine RL.e (Ef.call hS (bqMask p _ _) rfl rfl Try.call15 [0] [1, 2, 3] (by decide) rfl rfl) ?_ (Runs.guard rfl rfl rfl (rfl))
    rintro v81 w ⟨ps, ⟨⟨W, rfl, hW⟩, rfl⟩, hS⟩
    refine RL.q (Qt.bldA) ?_ (Runs.guard rfl rfl rfl (rfl))
    refine RL.q (Qt.eqlA rfl rfl (by rfl) (by rfl) (by rfl) (by rfl) (by kernel_rfl)) ?_ (Runs.guard rfl rfl rfl (rfl))
    refine RL.q ((by first | exact Qt.pickT rfl (by assumption) rfl | exact Qt.pickF rfl (by assumption) rfl | exact Qt.pickT rfl rfl rfl | exact Qt.pickF rfl rfl rfl)) ?_
    refine RL.q (Qt.as rfl) ?_
    refine RL.nil ?_
    refine RE.sqN ?_
    refine RC.ret ?_
    -- stops: end ret
    have hz : ∀ i, 0 ≤ i → i < 4 → W i = 0 := fun i a b => (hW.isZero a b).2 fun v _ _ => by simp [lvM, rPop, rIds]
    refine RE.retB rfl ⟨?_, rfl⟩ (hS.pick [2, 3] (by decide) rfl)
    simp [oneOf, intV, hz 0 (by decide) (by decide), hz 1 (by decide) (by decide), hz 2 (by decide) (by decide), hz 3 (by decide) (by decide)]
end Go.Proofs

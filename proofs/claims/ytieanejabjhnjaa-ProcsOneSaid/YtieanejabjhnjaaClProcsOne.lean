/- ProcsOne, for every input: an id stands at one place at most; the arguments read as before. No condition. -/
import Derived.Test.YtieanejabjhnjaaMpf
import Derived.Test.YtieanejabjhnjaaRows
/- The law ProcsOne answers true. -/
namespace Go.Proofs
open Go Go.Gx
variable {oo : World}

/-- The ids of all places ahead of i, and of its first j. -/
def prDone (L : List (List KItem)) (i j : Nat) : List Int := (L.take i).flatMap kIds ++ (kIds (L.getD i [])).take j
theorem prList_nat {np nt : Nat} {L : List (List KItem)} (hp : PrOk np nt L) (i : Nat) : prList L np i = kIds (L.getD i []) := by
  unfold prList
  split
  · rename_i h
    have hl := hp.len
    rw [List.getD_eq_getElem?_getD, List.getElem?_eq_none (by omega)]; rfl
  · rw [Int.toNat_natCast]
theorem prDone_step (L : List (List KItem)) (i : Nat) {j : Nat} (hj : j < (kIds (L.getD i [])).length) : prDone L i (j + 1) = prDone L i j ++ [(kIds (L.getD i []))[j]] := by
  unfold prDone
  rw [List.take_succ_eq_append_getElem hj, List.append_assoc]
theorem prDone_next (L : List (List KItem)) (i : Nat) : prDone L i (kIds (L.getD i [])).length = prDone L (i + 1) 0 := by
  unfold prDone
  rw [List.take_length, List.take_zero, List.append_nil]
  rcases Nat.lt_or_ge i L.length with h | h
  · rw [List.take_succ_eq_append_getElem h, List.flatMap_append, List.flatMap_cons, List.flatMap_nil, List.append_nil, getD_at h]
  · rw [List.getD_eq_getElem?_getD, List.getElem?_eq_none h, List.take_of_length_le h, List.take_of_length_le (by omega)]
    simp [kIds]
theorem prDone_not {np nt : Nat} {L : List (List KItem)} (hp : PrOk np nt L) {i j : Nat} (hj : j < (kIds (L.getD i [])).length) : (kIds (L.getD i []))[j] ∉ prDone L i j := by
  intro h
  have hi : i < L.length := by
    rcases Nat.lt_or_ge i L.length with h | h
    · exact h
    · rw [List.getD_eq_getElem?_getD, List.getElem?_eq_none h] at hj; simp [kIds] at hj
  have hm : (kIds (L.getD i []))[j] ∈ kIds L[i] := by
    have := List.getElem_mem hj
    have e := getD_at hi
    exact e ▸ this
  rcases List.mem_append.1 h with h | h
  · obtain ⟨l, hl, hml⟩ := List.mem_flatMap.1 h
    obtain ⟨k, hk, rfl⟩ := List.getElem_of_mem hl
    rw [List.length_take] at hk
    rw [List.getElem_take] at hml
    have := hp.apart k i (by omega) hi _ hml hm
    omega
  · have hnd : (kIds (L.getD i [])).Nodup := by rw [getD_at hi]; exact (hp.at hi).nodup
    obtain ⟨k, hk, e⟩ := List.getElem_of_mem h
    rw [List.length_take] at hk
    rw [List.getElem_take] at e
    have := nodup_inj hnd (by omega) hj e
    omega
theorem prDone_all (L : List (List KItem)) {m : Nat} (h : L.length ≤ m) : ((prDone L m 0).length : Int) = prLen L := by
  unfold prDone
  rw [List.take_zero, List.append_nil, List.take_of_length_le h]
  unfold prLen
  clear h
  induction L with
  | nil => rfl
  | cons l t ih =>
    rw [List.flatMap_cons, List.length_append, List.map_cons, List.sum_cons, ← ih, kIds, List.length_map]
    omega
theorem prDone_len {np nt : Nat} {L : List (List KItem)} (hp : PrOk np nt L) {i j : Nat} : (prDone L i j).length ≤ L.length * nt := by
  have h1 : (prDone L i j).length ≤ (prDone L (i + 1 + L.length) 0).length := by
    have e : ∀ m, (prDone L i j).length ≤ (prDone L (i + 1 + m) 0).length := fun m => by
      induction m with
      | zero =>
        rw [Nat.add_zero, ← prDone_next]
        unfold prDone
        rw [List.take_length, List.length_append, List.length_append, List.length_take]
        omega
      | succ m ih =>
        refine Nat.le_trans ih ?_
        rw [show i + 1 + (m + 1) = (i + 1 + m) + 1 by omega, ← prDone_next]
        unfold prDone
        rw [List.take_zero, List.append_nil, List.length_append]
        omega
    exact e L.length
  have h2 := prDone_all L (m := i + 1 + L.length) (by omega)
  have h3 := prLen_bound (L := L) (nt := nt) (fun l hl => (hp.each l hl).lenLe)
  have : ((L.length : Int) * (nt : Int)) = ((L.length * nt : Nat) : Int) := by simp
  omega
/-- What is seen of ten ids. -/
def seenA (d : List Int) : Array Value := ((List.range 10).map fun (i : Nat) => Value.bool (decide ((i : Int) ∈ d))).toArray
theorem seenA_get (d : List Int) {i : Int} {k : Nat} (h : 0 ≤ i ∧ i < 10) (hk : (k : Int) = i) : (seenA d).toList[k]? = some (.bool (decide (i ∈ d))) := by
  subst hk
  have : k < 10 := by omega
  simp [seenA, List.getElem?_range this]
theorem seenA_set (d : List Int) {i : Int} (h : 0 ≤ i ∧ i < 10) : wr (seenA d) i.toNat [.bool true] = seenA (d ++ [i]) := by
  show (seenA d).setIfInBounds i.toNat (.bool true) = _
  apply Array.ext
  · simp [seenA]
  · intro k h1 h2
    rw [Array.getElem_setIfInBounds]
    · have hk : k < 10 := by simpa [seenA] using h2
      simp only [seenA, List.getElem_toArray, List.getElem_map, List.getElem_range]
      by_cases e : i.toNat = k
      · have e2 : (k : Int) = i := by omega
        rw [if_pos e, e2]; simp
      · have e2 : ¬ (k : Int) = i := by omega
        rw [if_neg e]; simp [e2]
    · simpa using h1

set_option maxHeartbeats 4000000 in
theorem prLawOne (n : Int) (hn : 0 ≤ n ∧ n ≤ 255) (v : Value) (ds : List ODeed) (F0 : Frag) (hR : ODeedsAt v ds F0) (hd : ∀ x ∈ ds, x.ok) : Ct Try.prog 10 #[.int .u8 n, v] [pin F0] (fun v' ps => v' = .bool true ∧ ps = [pin F0]) := by
  have hnp4 : 1 ≤ prNp n ∧ prNp n ≤ 4 := by unfold prNp; omega
  refine Ct.enter Try.func10 rfl (Nat.le_of_ble_eq_true rfl) ?_
  intro oo w R hS
  change RC _ _ _ _ _ _ [(0, _), (1, _)] _
  refine RC.seq ?_
  refine RC.region rfl ?_
  refine RL.q (Qt.as rfl) ?_
  refine RL.nil ?_
  refine RE.sqN ?_
  refine RC.seq ?_
  refine RC.region rfl ?_
  refine RL.q (Qt.mv rfl) ?_
  refine RL.q (Qt.mv rfl) ?_
  refine RL.e (Ef.call hS (prPlay n hn v ds F0 hR hd) rfl rfl Try.call22 [0] [1] (by decide) rfl rfl) ?_
  rintro v18 w ⟨ps, ⟨b, r, L, rfl, hok, hro, rfl⟩, hS⟩
  refine RL.q (Qt.mv rfl) ?_
  refine RL.q (Qt.ext rfl rfl) ?_
  refine RL.q (Qt.ext rfl rfl) ?_
  refine RL.q (Qt.ext rfl rfl) ?_
  refine RL.q (Qt.as rfl) ?_
  refine RL.q (Qt.as rfl) ?_
  refine RL.q (Qt.as rfl) ?_
  refine RL.nil ?_
  refine RE.sqN ?_
  refine RC.seq ?_
  refine RC.seq ?_
  refine RC.region rfl ?_
  have hlen := hok.len
  refine RL.e (Ef.call hS (prLive) rfl rfl Try.call23 [] [0, 1, 2, 3] (by decide) rfl rfl) ?_
  rintro v22 w ⟨ps, ⟨rfl, p', L', rfl⟩, hS⟩
  refine RL.q (Qt.not rfl) ?_
  refine RL.q (Qt.mv rfl) ?_
  refine RLG.start 24 false rfl ?_
  refine RLG.q rfl rfl rfl (fun _ => Qt.mv rfl) ?_
  refine RLG.q rfl rfl rfl (fun _ => Qt.not rfl) ?_
  refine RLG.or rfl rfl ?_
  refine RL.nil ?_
  refine RE.sqN ?_
  refine RC.condF rfl (rfl) ?_
  refine RC.skip ?_
  refine RE.sqN ?_
  refine RC.seq ?_
  refine RC.region rfl ?_
  refine RL.e (Ef.alloc hS) ?_
  rintro _ w ⟨b8, rfl, hS⟩
  try simp (disch := omega) only [cells_agg'] at hS
  refine RL.nil ?_
  refine RE.sqN ?_
  refine RC.seq ?_
  refine RC.region rfl ?_
  refine RL.q (Qt.as rfl) ?_
  refine RL.nil ?_
  refine RE.sqN ?_
  refine RC.seq ?_
  refine RC.seq ?_
  refine RC.region rfl ?_
  refine RL.q (Qt.as rfl) ?_
  refine RL.nil ?_
  refine RE.sqN ?_
  refine RC.block ?_
  have hsz : (prNp n + 1) * 10 ≤ 50 := by omega
  have hdl : ∀ i j, (prDone L i j).length ≤ 50 := fun i j => by
    have := prDone_len hok (i := i) (j := j)
    rw [hlen] at this
    omega
  refine RC.loop (γ := Nat) (fun i E w' => E = [(10, .int .i64 i), (9, .int .i64 (prDone L i 0).length), (8, .pointer (some ⟨b8, 0, none⟩)), (5, .pointer (some ⟨b, 0, none⟩))] ∧ i ≤ 6 ∧
    Sat oo w' [pO (.pointer (some ⟨b, 0, none⟩)) (prNp n) 10 (prQu n) 80 L, pin F0, pt b8 (.cells (seenA (prDone L i 0)) 58 (0, 0)), R]) (fun i => 6 - i) 0 _ (by (repeat (first | exact Sub.nil | refine Sub.cons rfl ?_))) ⟨rfl, by omega, hS.pick [2, 4, 0, 5] (by decide) rfl⟩ ?_
  clear hS
  rintro i E w ⟨rfl, hi, hS⟩
  refine RC.seq ?_
  refine RC.seq ?_
  refine RC.region rfl ?_
  refine RL.q (Qt.mv rfl) ?_
  refine RL.q (Qt.lss rfl rfl) ?_
  refine RL.nil ?_
  refine RE.sqN ?_
  refine RC.cond rfl (fun h => ?_) (fun h => ?_)
  · skip
    have h : i < 6 := by
      have := of_decide_eq_true h
      omega
    have hpl := prList_nat hok i
    refine RC.skip ?_
    refine RE.sqN ?_
    refine RC.seq ?_
    refine RC.block ?_
    refine RC.seq ?_
    refine RC.region rfl ?_
    refine RL.q (Qt.mv rfl) ?_
    refine RL.q (Qt.mv rfl) ?_
    refine RL.e (Ef.call hS (prListC _ _ _ _ _ L i) rfl rfl Try.call27 [0] [1, 2, 3] (by decide) rfl rfl) ?_
    rintro v34 w ⟨ps, rfl, hS⟩
    rw [hpl] at hS
    obtain ⟨so, co, rfl⟩ := hS.ownForm 0 rfl
    refine RL.q (Qt.as rfl) ?_
    refine RL.nil ?_
    refine RE.sqN ?_
    refine RC.seq ?_
    refine RC.region rfl ?_
    refine RL.q (Qt.as rfl) ?_
    refine RL.nil ?_
    refine RE.sqN ?_
    refine RC.block ?_
    refine RC.loop (γ := Nat) (fun j E w' => E = [(12, .int .i64 j), (11, .slice so (kIds (L.getD i [])).length co), (10, .int .i64 i), (9, .int .i64 (prDone L i j).length), (8, .pointer (some ⟨b8, 0, none⟩)), (5, .pointer (some ⟨b, 0, none⟩))] ∧ j ≤ (kIds (L.getD i [])).length ∧
      Sat oo w' [ownI (.slice so (kIds (L.getD i [])).length co) (kIds (L.getD i [])), pO (.pointer (some ⟨b, 0, none⟩)) (prNp n) 10 (prQu n) 80 L, pin F0, pt b8 (.cells (seenA (prDone L i j)) 58 (0, 0)), R]) (fun j => (kIds (L.getD i [])).length - j) 0 _ (by (repeat (first | exact Sub.nil | refine Sub.cons rfl ?_))) ⟨rfl, by omega, hS⟩ ?_
    clear hS
    rintro j E w ⟨rfl, hj, hS⟩
    refine RC.seq ?_
    refine RC.seq ?_
    refine RC.region rfl ?_
    refine RL.q (Qt.mv rfl) ?_
    refine RL.q (Qt.mv rfl) ?_
    refine RL.q (Qt.lenS rfl) ?_
    refine RL.q (Qt.lss rfl rfl) ?_
    refine RL.nil ?_
    refine RE.sqN ?_
    refine RC.cond rfl (fun h2 => ?_) (fun h2 => ?_)
    · skip
      have h2 : j < (kIds (L.getD i [])).length := by simpa using h2
      have hiL : i < L.length := by
        rcases Nat.lt_or_ge i L.length with h | h
        · exact h
        · rw [List.getD_eq_getElem?_getD, List.getElem?_eq_none h] at h2; simp [kIds] at h2
      have hm : (kIds (L.getD i []))[j] ∈ kIds L[i] := by
        have := List.getElem_mem h2
        have e := getD_at hiL
        exact e ▸ this
      have hst := prDone_step L i h2
      have hno := prDone_not hok h2
      have hdj := hdl i j
      have hjl : (kIds (L.getD i [])).length ≤ 10 := by rw [getD_at hiL, kIds, List.length_map]; exact (hok.at hiL).lenLe
      generalize hia : (kIds (L.getD i []))[j] = ia at *
      have hr : 0 ≤ ia ∧ ia < 10 := by
        obtain ⟨y, hy, rfl⟩ := List.mem_map.1 hm
        exact (hok.at hiL).range y hy
      have hpw := hok.pw_some hiL hm
      have hw1 : pwOk L ia = true := by rw [pwOk, hpw]; rfl
      have hw2 : pwAt L ia = i := by rw [pwAt, hpw]
      obtain ⟨bo, capo, cc, hvo, hd1, hd2, hd3, hd4, hS⟩ := hS.ownPos 0 rfl (by omega)
      cases hvo
      have hic := int_cell hd4 (by simp) h2
      rw [hia] at hic
      refine RC.skip ?_
      refine RE.sqN ?_
      refine RC.seq ?_
      refine RC.block ?_
      refine RC.seq ?_
      refine RC.region rfl ?_
      refine RL.q (Qt.mv rfl) ?_
      refine RL.q (Qt.mv rfl) ?_
      refine RL.q (Qt.mv rfl) ?_
      refine RL.q (Qt.ixS rfl rfl (by omega) (by omega)) ?_
      refine RL.q (Qt.ld rfl (by exact hS.at 0 rfl) (by exact hic)) ?_
      refine RL.e (Ef.call hS (prWhere _ _ _ _ _ L ia) rfl rfl Try.call24 [1] [0, 2, 3, 4] (by decide) rfl rfl) ?_
      rintro v47 w ⟨ps, ⟨rfl, rfl⟩, hS⟩
      rw [hw1, hw2]
      refine RL.q (Qt.mv rfl) ?_
      refine RL.q (Qt.ext rfl rfl) ?_
      refine RL.q (Qt.ext rfl rfl) ?_
      refine RL.q (Qt.as rfl) ?_
      refine RL.q (Qt.as rfl) ?_
      refine RL.nil ?_
      refine RE.sqN ?_
      refine RC.seq ?_
      refine RC.seq ?_
      refine RC.region rfl ?_
      refine RL.q (Qt.mv rfl) ?_
      refine RL.q (Qt.mv rfl) ?_
      refine RL.q (Qt.ixS rfl rfl (by omega) (by omega)) ?_
      refine RL.q (Qt.ld rfl (by exact hS.at 1 rfl) (by exact hic)) ?_
      refine RL.q (Qt.lss rfl rfl) ?_
      refine RL.q (Qt.mv rfl) ?_
      refine RLG.start 55 false rfl ?_
      refine RLG.q rfl rfl rfl (fun _ => Qt.mv rfl) ?_
      refine RLG.q rfl rfl rfl (fun _ => Qt.mv rfl) ?_
      refine RLG.q rfl rfl rfl (fun hg => by (try simp only [decide_eq_false_iff_not] at hg); exact Qt.ixS rfl rfl (by omega) (by omega)) ?_
      refine RLG.q rfl rfl rfl (fun hg => by (try simp only [decide_eq_false_iff_not] at hg); exact Qt.ld rfl (by exact hS.at 1 rfl) (by exact hic)) ?_
      refine RLG.q rfl rfl rfl (fun hg => by (try simp only [decide_eq_false_iff_not] at hg); exact Qt.geq rfl rfl) ?_
      refine RLG.or rfl rfl ?_
      refine RL.q (Qt.mv rfl) ?_
      refine RLG.start 62 false rfl ?_
      refine RLG.q rfl rfl rfl (fun _ => Qt.mv rfl) ?_
      refine RLG.q rfl rfl rfl (fun _ => Qt.mv rfl) ?_
      refine RLG.q rfl rfl rfl (fun hg => by (try simp only [decide_eq_false_iff_not, Bool.or_eq_false_iff] at hg); exact Qt.ixS rfl rfl (by omega) (by omega)) ?_
      refine RLG.q rfl rfl rfl (fun hg => by (try simp only [decide_eq_false_iff_not, Bool.or_eq_false_iff] at hg); exact Qt.ld rfl (by exact hS.at 1 rfl) (by exact hic)) ?_
      refine RLG.q rfl rfl rfl (fun hg => by (try simp only [decide_eq_false_iff_not, Bool.or_eq_false_iff] at hg); exact Qt.ixA rfl rfl (by omega) (by omega)) ?_
      refine RLG.q rfl rfl rfl (fun hg => by (try simp only [decide_eq_false_iff_not, Bool.or_eq_false_iff] at hg); exact Qt.ld rfl (by exact hS.at 3 rfl) (by exact seenA_get _ hr (by omega))) ?_
      refine RLG.or rfl rfl ?_
      refine RL.q (Qt.mv rfl) ?_
      refine RLG.start 70 false rfl ?_
      refine RLG.q rfl rfl rfl (fun _ => Qt.mv rfl) ?_
      refine RLG.q rfl rfl rfl (fun _ => Qt.not rfl) ?_
      refine RLG.or rfl rfl ?_
      refine RL.q (Qt.mv rfl) ?_
      refine RLG.start 74 false rfl ?_
      refine RLG.q rfl rfl rfl (fun _ => Qt.mv rfl) ?_
      refine RLG.q rfl rfl rfl (fun _ => Qt.mv rfl) ?_
      refine RLG.q rfl rfl rfl (fun hg => by (try simp only [decide_eq_false_iff_not, Bool.or_eq_false_iff] at hg); exact Qt.neq rfl rfl) ?_
      refine RLG.or rfl rfl ?_
      refine RL.nil ?_
      refine RE.sqN ?_
      have hs10 : (seenA (prDone L i j)).size = 10 := by simp [seenA]
      refine RC.condF rfl (by simp [hno]; omega) ?_
      refine RC.skip ?_
      refine RE.sqN ?_
      refine RC.seq ?_
      refine RC.region rfl ?_
      refine RL.q (Qt.mv rfl) ?_
      refine RL.q (Qt.mv rfl) ?_
      refine RL.q (Qt.ixS rfl rfl (by omega) (by omega)) ?_
      refine RL.q (Qt.ld rfl (by exact hS.at 1 rfl) (by exact hic)) ?_
      refine RL.q (Qt.ixA rfl rfl (by omega) (by omega)) ?_
      refine RL.e0 (Ef.st hS 3 rfl rfl rfl (by rfl) (by rfl) (by omega)) ?_
      intro _ w hS
      simp (disch := omega) only [cells_bool', Nat.zero_add, wr] at hS
      refine RL.nil ?_
      refine RE.sqN ?_
      refine RC.region rfl ?_
      refine RL.q (Qt.mv rfl) ?_
      refine RL.q ((by exact Qt.addI rfl rfl (by dsimp only [inK]; omega))) ?_
      refine RL.q (Qt.as rfl) ?_
      refine RL.nil ?_
      refine RE.bkN ?_
      refine RE.sqN ?_
      refine RC.region rfl ?_
      refine RL.q (Qt.mv rfl) ?_
      refine RL.q ((by exact Qt.addI rfl rfl (by dsimp only [inK]; omega))) ?_
      refine RL.q (Qt.as rfl) ?_
      refine RL.nil ?_
      have hws := seenA_set (prDone L i j) hr
      have hS := hS.pick [1, 0, 2, 3, 4] (by decide) rfl
      rw [Nat.mul_one] at hS
      apply RE.lpN (j + 1)
      case hI =>
        refine ⟨by rw [show ((prDone L i (j + 1)).length : Int) = (prDone L i j).length + 1 by rw [hst, List.length_append]; rfl], h2, ?_⟩
        rw [hst, ← hws]
        exact hS.ownMk (cap := co) (n := (kIds (L.getD i [])).length) (sz := 1) (cs := ints (kIds (L.getD i []))) 0 rfl hd1 hd2 hd3 hd4
      case hs => (repeat (first | exact Sub.nil | refine Sub.cons rfl ?_))
      case hm =>
        show (kIds (L.getD i [])).length - (j + 1) < (kIds (L.getD i [])).length - j
        omega
    · skip
      have hge : j = (kIds (L.getD i [])).length := by
        have : ¬ j < (kIds (L.getD i [])).length := by simpa using h2
        omega
      subst hge
      refine RC.exit ?_
      refine RE.sqX ?_
      refine RE.lpX ?_
      refine RE.bkX ?_
      refine RE.bkN ?_
      refine RE.sqN ?_
      refine RC.region rfl ?_
      refine RL.q (Qt.mv rfl) ?_
      refine RL.q ((by exact Qt.addI rfl rfl (by dsimp only [inK]; omega))) ?_
      refine RL.q (Qt.as rfl) ?_
      refine RL.nil ?_
      apply RE.lpN (i + 1)
      case hI => exact ⟨by rw [← prDone_next], h, by rw [← prDone_next]; exact hS.pick [1, 2, 3, 4] (by decide) rfl⟩
      case hs => (repeat (first | exact Sub.nil | refine Sub.cons rfl ?_))
      case hm =>
        show 6 - (i + 1) < 6 - i
        omega
  · skip
    have hge : i = 6 := by
      have := of_decide_eq_false h
      omega
    subst hge
    refine RC.exit ?_
    refine RE.sqX ?_
    refine RE.lpX ?_
    refine RE.bkX ?_
    refine RE.sqN ?_
    refine RC.seq ?_
    refine RC.region rfl ?_
    refine RL.q (Qt.mv rfl) ?_
    refine RL.q (Qt.mv rfl) ?_
    refine RL.e (Ef.call hS (prLenC _ _ _ _ _ L) rfl rfl Try.call21 [0] [1, 2, 3] (by decide) rfl rfl) ?_
    rintro v88 w ⟨ps, ⟨rfl, rfl⟩, hS⟩
    refine RL.q (Qt.eql rfl rfl) ?_
    refine RL.q (Qt.as rfl) ?_
    refine RL.nil ?_
    refine RE.sqN ?_
    refine RC.ret ?_
    rw [prDone_all L (by omega)]
    exact RE.retB rfl ⟨by simp [oneOf], rfl⟩ (hS.pick [1, 3] (by decide) rfl)
end Go.Proofs

/- ProcsOne, for every input: an id stands at one place at most; all places together have as many as there are; the arguments read as before. No condition. -/
namespace Go.Proofs
open Go Go.Gx Go.ChangeShapes Go.WideShapes Go.ChangeAt Go.RowKit Go.Deep
namespace Ytieanejabjhnjaa
set_option maxRecDepth 100000 in
theorem procsOne_lifted (os : Os) (started : os.Started) (H : Type) (enc : TypeId × Value → H) :
    ReturnsInHanded {} Try.checked os 10 .any (Rows.procsOneSpec.pre6 enc Try.prog Try.f10 Rows.procsOneRow.domain false) (Rows.procsOneSpec.post enc Try.prog Try.f10 false true false false) := by
  refine returnsInHanded_of_change (C := Try.checked) own_knob started (by kernel_rfl) Try.func10
    (ChangeSpec.witness6 (enc := enc) (C := Try.checked) false ⟨#[], #[.int .u8 0, .slice none 0 0], []⟩ 8 (by kernel_rfl) (by kernel_rfl) (by kernel_rfl) (by kernel_rfl)) ?_
  intro W base args ds gs before hval0 hW hcnd _
  have hval : ∀ (j : Nat) t v, Try.f10.params[j]? = some t → args[j]? = some v → Value.okWide Try.prog W .any base t v := hval0
  have hW' := hW
  obtain ⟨p, q, hA0, hV, rfl, hfz, hnd⟩ := hW
  have hA : DataW.TrodAll enc Try.prog W 0 (fun _ => true) true Try.f10.params.toList args.toList ds p := hA0
  rw [Try.params10] at hA hval
  obtain ⟨v0, v1, d0, d1, p0, p1, rfl, rfl, rfl, h0, h1⟩ := trodAll_two hA
  obtain ⟨rfl, rfl⟩ := trodVars_none hV
  obtain ⟨n, rfl, _, _, wn⟩ := open_int (TI.u (P := Try.prog) (t := 5)) (hval 0 _ v0 rfl rfl) h0
  obtain ⟨dl, hdl, okdl⟩ := prDeeds_open (hval 1 _ v1 rfl rfl) h1
  refine (prLawOne n (bounds_u8 wn) v1 dl (allOf W) hdl okdl).law.mono fun e W' ⟨he, hb⟩ => ?_
  subst he
  exact ⟨_, rfl, law_post laid_out (by rw [Try.params10]; decide +kernel) hW' rfl hb rfl (TI.u (P := Try.prog) (t := 4)) rfl rfl rfl⟩

theorem procsOne_holds : Rows.ProcsOneSaid :=
  OpenClaim.holds_of_wide 10 Try.f10 rfl rfl rfl rfl rfl rfl rfl ⟨rfl, rfl, rfl, rfl, rfl⟩ rfl rfl rfl rfl rfl (by kernel_rfl) Try.func10 (by show joinedFacts Try.prog 10 Try.f10 Rows.procsOneSpec Rows.procsOneRow = true; unfold joinedFacts; rw [may_enter, lifts_final, make_is]; kernel_rfl)
    (of_decide_eq_true (by kernel_rfl)) (by unfold Func.isWrapper; (rw [if_neg (by decide +kernel)]; exact ⟨rfl, rfl⟩))
    (fun os started H enc _ => procsOne_lifted os started H enc)
end Ytieanejabjhnjaa
end Go.Proofs

/- ProcsBest, for every input: nothing that stands anywhere is more urgent than what a processor would take; the arguments read as before. No condition. -/
import Derived.Test.YtieanejabjhnjaaMpf
import Derived.Test.YtieanejabjhnjaaRows
/- The law ProcsBest answers true. -/
namespace Go.Proofs
open Go Go.Gx
variable {oo : World}

theorem getD_some {L : List (List KItem)} {k : Nat} {y : KItem} (h : y ∈ L.getD k []) : ∃ hk : k < L.length, y ∈ L[k] := by
  rcases Nat.lt_or_ge k L.length with hk | hk
  · exact ⟨hk, by rwa [getD_at hk] at h⟩
  · rw [List.getD_eq_getElem?_getD, List.getElem?_eq_none hk] at h; simp at h
theorem prRem_mem {np nt : Nat} {L : List (List KItem)} (hp : PrOk np nt L) (a : Int) {k : Nat} {y : KItem} : y ∈ (prRem L nt a).getD k [] ↔ y ∈ L.getD k [] ∧ y.id ≠ a := by
  by_cases hok : pwOk L a = true
  · obtain ⟨i, hi, ha, hm⟩ := pw_get hok
    have hr : 0 ≤ a ∧ a < nt := by
      obtain ⟨z, hz, rfl⟩ := List.mem_map.1 hm
      exact (hp.at hi).range z hz
    have he : prErr L nt a true true = 0 := prErr_ok1 (by simp; omega) hok
    have e : prRem L nt a = L.set i (kout L[i] a) := by rw [prRem, if_pos he, ha, Int.toNat_natCast, prUpd_at hi]
    rw [e]
    constructor
    · intro h
      obtain ⟨hk0, g⟩ := getD_some h
      have hk : k < L.length := by simpa using hk0
      clear h
      rw [List.getElem_set] at g
      rw [getD_at hk]
      split at g
      · subst_vars; exact mem_kout.1 g
      · rename_i hne
        refine ⟨g, fun e => hne ?_⟩
        exact hp.apart i k hi hk a hm (List.mem_map.2 ⟨y, g, e⟩)
    · rintro ⟨h, hne⟩
      obtain ⟨hk, h⟩ := getD_some h
      rw [getD_at (by rw [List.length_set]; exact hk), List.getElem_set]
      split
      · subst_vars; exact mem_kout.2 ⟨h, hne⟩
      · exact h
  · have e : prRem L nt a = L := by
      refine if_neg fun he => hok ?_
      by_cases h1 : a < 0 ∨ a ≥ nt ∨ true = false
      · rw [prErr_range h1] at he; cases he
      · cases hq : pwOk L a with
        | true => rfl
        | false => rw [prErr_none h1 hq] at he; cases he
    rw [e]
    refine ⟨fun h => ⟨h, fun e2 => hok ?_⟩, fun h => h.1⟩
    obtain ⟨hk, h⟩ := getD_some h
    exact pwOk_iff.2 ⟨_, List.getElem_mem hk, List.mem_map.2 ⟨y, h, e2⟩⟩
/-- Only one id stands anywhere: its key is the best one. -/
theorem prOnly {np nt : Nat} {L : List (List KItem)} (hp : PrOk np nt L) (h1 : 1 ≤ np) {x : KItem} {i : Nat} (hx : x ∈ L.getD i []) (hall : ∀ k, ∀ y ∈ L.getD k [], y.id = x.id) : prBK L (prB L np 0 0) = x.k := by
  obtain ⟨hi, hxi⟩ := getD_some hx
  have hlen := hp.len
  have hne : L.getD (i : Int).toNat [] ≠ [] := by
    rw [Int.toNat_natCast]
    exact List.ne_nil_of_mem hx
  obtain ⟨g0, _⟩ := prB_max h1 (L := L) (proc := 0) (by omega) 0 (q := i) (by omega) hne
  obtain ⟨_, _, g2⟩ := (prB_range (L := L) h1 0 0).resolve_left (by omega)
  generalize prB L np 0 0 = bb at *
  rw [prBK, if_neg (by omega)]
  cases e : L.getD bb.toNat [] with
  | nil => exact absurd e g2
  | cons y t =>
    have hy : y ∈ L.getD bb.toNat [] := by rw [e]; simp
    have hid := hall _ y hy
    obtain ⟨hb, hyb⟩ := getD_some hy
    have heq := hp.apart bb.toNat i hb hi x.id (by rw [← hid]; exact List.mem_map.2 ⟨y, hyb, rfl⟩) (List.mem_map.2 ⟨x, hxi, rfl⟩)
    subst heq
    have := kid_inj (hp.at hi).nodup hyb hxi hid
    subst this
    rfl

set_option maxHeartbeats 4000000 in
theorem prTopKey (r : Value) (np nt : Nat) (queue : Int) (L : List (List KItem)) (a : Int) (x : KItem) (i0 : Nat) (hx : x ∈ L.getD i0 []) (hn5 : 1 ≤ np ∧ np ≤ 5) : Ct Try.prog 29 #[r, .int .i64 a, .int .i64 x.id] [rpO r np nt queue L] (fun v ps => v = .agg x.k.cells.toArray ∧ ps = []) := by
  refine Ct.enter Try.func29 rfl (Nat.le_of_ble_eq_true rfl) ?_
  intro oo w R hS
  change RC _ _ _ _ _ _ [(0, _), (1, _), (2, _)] _
  obtain ⟨bq, sp0, cap0, vs0, rfl, hp, hv0, hnp, hnt, hS⟩ := rpO_open hS
  have hS := rpO_shut hp hv0 hnp hnt hS
  have hkw : ∀ k : KKey, (wr #[.bool false, .int .u64 0, .int .u8 0] 0 k.cells).extract 0 (0 + 3) = k.cells.toArray := fun k => rfl
  refine RC.seq ?_
  refine RC.region rfl ?_
  refine RL.e (Ef.alloc hS) ?_
  rintro _ w ⟨b6, rfl, hS⟩
  try simp (disch := omega) only [cells_agg'] at hS
  refine RL.nil ?_
  refine RE.sqN ?_
  refine RC.seq ?_
  refine RC.seq ?_
  refine RC.region rfl ?_
  refine RL.q (Qt.as rfl) ?_
  refine RL.nil ?_
  refine RE.sqN ?_
  refine RC.block ?_
  refine RC.loop (γ := Nat × List (List KItem)) (fun g E w' => E = [(7, .int .i64 g.1), (6, .pointer (some ⟨b6, 0, none⟩)), (0, .pointer (some ⟨bq, 0, none⟩)), (2, .int .i64 x.id)] ∧ (g.1 ≤ 6 ∧ PrOk np nt g.2 ∧ x ∈ g.2.getD i0 [] ∧ ∀ k < g.1, ∀ y ∈ g.2.getD k [], y.id = x.id) ∧
    Sat oo w' [rpO (.pointer (some ⟨bq, 0, none⟩)) np nt queue g.2, pt b6 (.cells #[.bool false, .int .u64 0, .int .u8 0] 31 (0, 0)), R]) (fun g => 6 - g.1) (0, L) _ (by (repeat (first | exact Sub.nil | refine Sub.cons rfl ?_))) ⟨rfl, ⟨by dsimp only; omega, hp, hx, fun k hk => by dsimp only at hk; omega⟩, hS.pick [1, 0, 2] (by decide) rfl⟩ ?_
  clear hS hp hv0 hx
  rintro ⟨i, L⟩ E w ⟨rfl, ⟨hi, hp, hx, hall⟩, hS⟩
  dsimp only at hi hp hx hall hS
  refine RC.seq ?_
  refine RC.seq ?_
  refine RC.region rfl ?_
  refine RL.q (Qt.mv rfl) ?_
  refine RL.q (Qt.lss rfl rfl) ?_
  refine RL.nil ?_
  refine RE.sqN ?_
  refine RC.cond rfl (fun h => ?_) (fun h => ?_)
  · skip
    have h : i < 6 := by
      have := of_decide_eq_true h
      omega
    refine RC.skip ?_
    refine RE.sqN ?_
    refine RC.seq ?_
    refine RC.block ?_
    refine RC.seq ?_
    refine RC.region rfl ?_
    refine RL.q (Qt.mv rfl) ?_
    refine RL.q (Qt.mv rfl) ?_
    refine RL.e (Ef.call hS (rpList _ np nt queue L i) rfl rfl Try.call49 [0] [1, 2] (by decide) rfl rfl) ?_
    rintro v20 w ⟨ps, rfl, hS⟩
    have hll := prList_len hp i
    have hpl : ∀ y ∈ L.getD i [], y.id ∈ prList L np i := fun y hy => by
      obtain ⟨hk, hy⟩ := getD_some hy
      have := hp.len
      rw [prList, if_neg (by omega), Int.toNat_natCast, getD_at hk]
      exact List.mem_map.2 ⟨y, hy, rfl⟩
    generalize prList L np i = l at *
    obtain ⟨so, co, rfl⟩ := hS.ownForm 0 rfl
    refine RL.q (Qt.as rfl) ?_
    refine RL.nil ?_
    refine RE.sqN ?_
    refine RC.seq ?_
    refine RC.region rfl ?_
    refine RL.q (Qt.as rfl) ?_
    refine RL.nil ?_
    refine RE.sqN ?_
    refine RC.block ?_
    refine RC.loop (γ := Nat × List (List KItem)) (fun g E w' => E = [(9, .int .i64 g.1), (8, .slice so l.length co), (7, .int .i64 i), (6, .pointer (some ⟨b6, 0, none⟩)), (0, .pointer (some ⟨bq, 0, none⟩)), (2, .int .i64 x.id)] ∧ (g.1 ≤ l.length ∧ PrOk np nt g.2 ∧ x ∈ g.2.getD i0 [] ∧ (∀ k < i, ∀ y ∈ g.2.getD k [], y.id = x.id) ∧ ∀ y ∈ g.2.getD i [], y.id = x.id ∨ y.id ∈ l.drop g.1) ∧
      Sat oo w' [ownI (.slice so l.length co) l, rpO (.pointer (some ⟨bq, 0, none⟩)) np nt queue g.2, pt b6 (.cells #[.bool false, .int .u64 0, .int .u8 0] 31 (0, 0)), R]) (fun g => l.length - g.1) (0, L) _ (by (repeat (first | exact Sub.nil | refine Sub.cons rfl ?_))) ⟨rfl, ⟨by dsimp only; omega, hp, hx, hall, fun y hy => .inr (hpl y hy)⟩, hS⟩ ?_
    clear hS hp hx hall hpl
    rintro ⟨j, L⟩ E w ⟨rfl, ⟨hj, hp, hx, hall, hpl⟩, hS⟩
    dsimp only at hj hp hx hall hpl hS
    refine RC.seq ?_
    refine RC.seq ?_
    refine RC.region rfl ?_
    refine RL.q (Qt.mv rfl) ?_
    refine RL.q (Qt.mv rfl) ?_
    refine RL.q (Qt.lenS rfl) ?_
    refine RL.q (Qt.lss rfl rfl) ?_
    refine RL.nil ?_
    refine RE.sqN ?_
    refine RC.cond rfl (fun h2 => ?_) (fun h2 => ?_)
    · skip
      have h2 : j < l.length := by simpa using h2
      have hd : l.drop j = l[j] :: l.drop (j + 1) := List.drop_eq_getElem_cons h2
      obtain ⟨bo, capo, cc, hvo, hd1, hd2, hd3, hd4, hS⟩ := hS.ownPos 0 rfl (by omega)
      cases hvo
      have hic := int_cell hd4 (by simp) h2
      rw [hd] at hpl
      generalize l[j] = ia at *
      refine RC.skip ?_
      refine RE.sqN ?_
      refine RC.seq ?_
      refine RC.block ?_
      refine RC.seq ?_
      refine RC.region rfl ?_
      refine RL.q (Qt.mv rfl) ?_
      refine RL.q (Qt.mv rfl) ?_
      refine RL.q (Qt.ixS rfl rfl (by omega) (by omega)) ?_
      refine RL.q (Qt.ld rfl (by exact hS.at 0 rfl) (by exact hic)) ?_
      refine RL.q (Qt.mv rfl) ?_
      refine RL.q (Qt.neq rfl rfl) ?_
      refine RL.nil ?_
      refine RE.sqN ?_
      refine RC.cond rfl (fun h3 => ?_) (fun h3 => ?_)
      · skip
        have h3 : ia ≠ x.id := of_decide_eq_true h3
        refine RC.region rfl ?_
        refine RL.q (Qt.mv rfl) ?_
        refine RL.q (Qt.mv rfl) ?_
        refine RL.q (Qt.mv rfl) ?_
        refine RL.q (Qt.ixS rfl rfl (by omega) (by omega)) ?_
        refine RL.q (Qt.ld rfl (by exact hS.at 0 rfl) (by exact hic)) ?_
        refine RL.e (Ef.call hS (rpRemove _ np nt queue L ia) rfl rfl Try.call50 [1] [0, 2, 3] (by decide) rfl rfl) ?_
        rintro v38 w ⟨ps, ⟨rfl, rfl⟩, hS⟩
        refine RL.nil ?_
        refine RE.bkN ?_
        refine RE.sqN ?_
        refine RC.region rfl ?_
        refine RL.q (Qt.mv rfl) ?_
        refine RL.q ((by exact Qt.addI rfl rfl (by dsimp only [inK]; omega))) ?_
        refine RL.q (Qt.as rfl) ?_
        refine RL.nil ?_
        apply RE.lpN ((j + 1, prRem L nt ia))
        case hI =>
          refine ⟨rfl, ⟨h2, hp.rem _, (prRem_mem hp ia).2 ⟨hx, fun e => h3 e.symm⟩, fun k hk y hy => hall k hk y ((prRem_mem hp ia).1 hy).1, fun y hy => ?_⟩, (hS.pick [1, 0, 2, 3] (by decide) rfl).ownMk (cap := co) (n := l.length) (sz := 1) (cs := ints l) 0 rfl hd1 hd2 hd3 hd4⟩
          obtain ⟨g1, g2⟩ := (prRem_mem hp ia).1 hy
          rcases hpl y g1 with h | h
          · exact .inl h
          · rcases List.mem_cons.1 h with h | h
            · exact absurd h g2
            · exact .inr h
        case hs => (repeat (first | exact Sub.nil | refine Sub.cons rfl ?_))
        case hm =>
          show l.length - (j + 1) < l.length - j
          omega
      · refine RC.skip ?_
        refine RE.bkN ?_
        refine RE.sqN ?_
        refine RC.region rfl ?_
        refine RL.q (Qt.mv rfl) ?_
        refine RL.q ((by exact Qt.addI rfl rfl (by dsimp only [inK]; omega))) ?_
        refine RL.q (Qt.as rfl) ?_
        refine RL.nil ?_
        have h3 : ia = x.id := by simpa using h3
        apply RE.lpN ((j + 1, L))
        case hI =>
          refine ⟨rfl, ⟨h2, hp, hx, hall, fun y hy => ?_⟩, hS.ownMk (cap := co) (n := l.length) (sz := 1) (cs := ints l) 0 rfl hd1 hd2 hd3 hd4⟩
          rcases hpl y hy with h | h
          · exact .inl h
          · rcases List.mem_cons.1 h with h | h
            · exact .inl (h.trans h3)
            · exact .inr h
        case hs => (repeat (first | exact Sub.nil | refine Sub.cons rfl ?_))
        case hm =>
          show l.length - (j + 1) < l.length - j
          omega
    · skip
      have hge : l.length ≤ j := by
        have : ¬ j < l.length := by simpa using h2
        omega
      rw [List.drop_eq_nil_of_le hge] at hpl
      refine RC.exit ?_
      refine RE.sqX ?_
      refine RE.lpX ?_
      refine RE.bkX ?_
      refine RE.bkN ?_
      refine RE.sqN ?_
      refine RC.region rfl ?_
      refine RL.q (Qt.mv rfl) ?_
      refine RL.q ((by exact Qt.addI rfl rfl (by dsimp only [inK]; omega))) ?_
      refine RL.q (Qt.as rfl) ?_
      refine RL.nil ?_
      apply RE.lpN ((i + 1, L))
      case hI =>
        refine ⟨rfl, ⟨h, hp, hx, fun k hk y hy => ?_⟩, hS.pick [1, 2, 3] (by decide) rfl⟩
        rcases Nat.lt_or_ge k i with hk2 | hk2
        · exact hall k hk2 y hy
        · have : k = i := by
            dsimp only at hk
            omega
          subst this
          rcases hpl y hy with h | h
          · exact h
          · cases h
      case hs => (repeat (first | exact Sub.nil | refine Sub.cons rfl ?_))
      case hm =>
        show 6 - (i + 1) < 6 - i
        omega
  · skip
    have hge : i = 6 := by
      have := of_decide_eq_false h
      omega
    subst hge
    have hbk := prOnly hp hn5.1 hx fun k y hy => by
      obtain ⟨hk, _⟩ := getD_some hy
      have := hp.len
      exact hall k (by omega) y hy
    refine RC.exit ?_
    refine RE.sqX ?_
    refine RE.lpX ?_
    refine RE.bkX ?_
    refine RE.sqN ?_
    refine RC.seq ?_
    refine RC.region rfl ?_
    refine RL.q (Qt.mv rfl) ?_
    refine RL.e (Ef.call hS (rpBest _ np nt queue L 0 0 (by decide)) rfl rfl Try.call51 [0] [1, 2] (by decide) rfl rfl) ?_
    rintro v41 w ⟨ps, ⟨rfl, rfl⟩, hS⟩
    refine RL.q (Qt.mv rfl) ?_
    refine RL.q (Qt.ext rfl rfl) ?_
    refine RL.q (Qt.ext rfl rfl) ?_
    refine RL.q (Qt.ext rfl rfl) ?_
    refine RL.q (Qt.ext rfl rfl) ?_
    refine RL.e (Ef.alloc hS) ?_
    rintro _ w ⟨b11, rfl, hS⟩
    try simp (disch := omega) only [cells_agg'] at hS
    refine RL.q (Qt.as rfl) ?_
    refine RL.e0 (Ef.st hS 0 rfl rfl rfl (by rfl) (by rfl) (by exact Nat.le_of_ble_eq_true rfl)) ?_
    intro _ w hS
    simp (disch := omega) only [List.set_cons_zero, cells_agg'] at hS
    refine RL.q (Qt.as rfl) ?_
    refine RL.q (Qt.as rfl) ?_
    refine RL.nil ?_
    refine RE.sqN ?_
    refine RC.seq ?_
    refine RC.region rfl ?_
    refine RL.q (Qt.ldA rfl (by exact hS.at 0 rfl) (by exact hkw _) (by exact Nat.le_of_ble_eq_true rfl)) ?_
    refine RL.e0 (Ef.st hS 2 rfl rfl rfl (by rfl) (by rfl) (by exact Nat.le_of_ble_eq_true rfl)) ?_
    intro _ w hS
    simp (disch := omega) only [List.set_cons_succ, cells_agg'] at hS
    refine RL.nil ?_
    refine RE.sqN ?_
    refine RC.ret ?_
    rw [hbk] at hS
    exact RE.retW (vs := [.agg x.k.cells.toArray]) (by repeat (first | exact ResW.nil | refine ResW.tmp rfl ?_ | refine ResW.cell (by infer_instance) rfl rfl (by exact hS.get 2 rfl) rfl (Nat.le_of_ble_eq_true rfl) ?_)) ⟨rfl, rfl⟩ (hS.pick [3] (by decide) rfl)

theorem prLen_pos {L : List (List KItem)} : prLen L > 0 ↔ ∃ k, L.getD k [] ≠ [] := by
  have h0 : ∀ M : List (List KItem), 0 ≤ prLen M := fun M => by
    induction M with
    | nil => simp [prLen]
    | cons l t ih => rw [prLen_cons]; omega
  induction L with
  | nil => simp [prLen]
  | cons l t ih =>
    rw [prLen_cons]
    have ht := h0 t
    constructor
    · intro h
      by_cases hl : l = []
      · subst hl
        obtain ⟨k, hk⟩ := ih.1 (by simpa using h)
        exact ⟨k + 1, by simpa using hk⟩
      · exact ⟨0, by simpa using hl⟩
    · rintro ⟨k, hk⟩
      cases k with
      | zero =>
        have : 0 < l.length := List.length_pos_iff.2 (by simpa using hk)
        omega
      | succ k =>
        have := ih.2 ⟨k, by simpa using hk⟩
        omega
theorem prB_some {np nt : Nat} {L : List (List KItem)} (hp : PrOk np nt L) (h1 : 1 ≤ np) {proc : Int} (hpr : 0 ≤ proc ∧ proc < np) (draw : Int) : prBOk (prB L np proc draw) = decide (prLen L > 0) := by
  have hlen := hp.len
  rw [prBOk]
  apply decide_eq_decide.2
  rw [prLen_pos]
  constructor
  · intro h
    obtain ⟨_, _, g2⟩ := (prB_range (L := L) h1 proc draw).resolve_left (by omega)
    exact ⟨_, g2⟩
  · rintro ⟨k, hk⟩
    have hkl : k < L.length := by
      cases e : L.getD k [] with
      | nil => exact absurd e hk
      | cons y t => exact (getD_some (y := y) (by rw [e]; simp)).1
    exact (prB_max h1 hpr draw (q := k) (by omega) (by rw [Int.toNat_natCast]; exact hk)).1

set_option maxHeartbeats 4000000 in
theorem prLawBest (n : Int) (hn : 0 ≤ n ∧ n ≤ 255) (v : Value) (ds : List ODeed) (x : ODeed) (F0 : Frag) (hR : ODeedsAt v ds F0) (hd : ∀ x ∈ ds, x.ok) (hx : x.ok) : Ct Try.prog 7 #[.int .u8 n, v, x.val] [pin F0] (fun v' ps => v' = .bool true ∧ ps = [pin F0]) := by
  have hnp4 : 1 ≤ prNp n ∧ prNp n ≤ 4 := by unfold prNp; omega
  have hnp : n % 4 + 1 = (prNp n : Nat) := by unfold prNp; omega
  have hkw : ∀ k : KKey, (wr #[.bool false, .int .u64 0, .int .u8 0] 0 k.cells).extract 0 (0 + 3) = k.cells.toArray := fun k => rfl
  obtain ⟨_, hdx⟩ := hx
  refine Ct.enter Try.func7 rfl (Nat.le_of_ble_eq_true rfl) ?_
  intro oo w R hS
  change RC _ _ _ _ _ _ [(0, _), (1, _), (2, _)] _
  refine RC.seq ?_
  refine RC.region rfl ?_
  refine RL.e (Ef.box hS rfl) ?_
  rintro _ w ⟨b5, rfl, hS⟩
  try simp (disch := omega) only [List.set_cons_zero, List.set_cons_succ, cells_int, cells_bool, cells_ptr, cells_slice, cells_func, cells_agg, cells_map, cells_int', cells_bool', cells_ptr', cells_slice', cells_agg', cells_map', cells_func', Nat.zero_add, wr, List.setIfInBounds_toArray] at hS
  refine RL.q (Qt.as rfl) ?_
  refine RL.nil ?_
  refine RE.sqN ?_
  refine RC.seq ?_
  refine RC.region rfl ?_
  refine RL.q (Qt.mv rfl) ?_
  refine RL.q (Qt.mv rfl) ?_
  refine RL.e (Ef.call hS (prPlay n hn v ds F0 hR hd) rfl rfl Try.call22 [1] [0, 2] (by decide) rfl rfl) ?_
  rintro v22 w ⟨ps, ⟨b, r, L, rfl, hok, hro, rfl⟩, hS⟩
  refine RL.q (Qt.mv rfl) ?_
  refine RL.q (Qt.ext rfl rfl) ?_
  refine RL.q (Qt.ext rfl rfl) ?_
  refine RL.q (Qt.ext rfl rfl) ?_
  refine RL.q (Qt.as rfl) ?_
  refine RL.q (Qt.as rfl) ?_
  refine RL.q (Qt.as rfl) ?_
  refine RL.nil ?_
  refine RE.sqN ?_
  refine RC.seq ?_
  refine RC.seq ?_
  refine RC.region rfl ?_
  have hlen := hok.len
  refine RL.e (Ef.call hS (prLive) rfl rfl Try.call23 [] [0, 1, 2, 3, 4] (by decide) rfl rfl) ?_
  rintro v26 w ⟨ps, ⟨rfl, p', L', rfl⟩, hS⟩
  refine RL.q (Qt.not rfl) ?_
  refine RL.q (Qt.mv rfl) ?_
  refine RLG.start 28 false rfl ?_
  refine RLG.q rfl rfl rfl (fun _ => Qt.mv rfl) ?_
  refine RLG.q rfl rfl rfl (fun _ => Qt.not rfl) ?_
  refine RLG.or rfl rfl ?_
  refine RL.nil ?_
  refine RE.sqN ?_
  refine RC.condF rfl (rfl) ?_
  refine RC.skip ?_
  refine RE.sqN ?_
  refine RC.seq ?_
  refine RC.region rfl ?_
  refine RL.q (Qt.mv rfl) ?_
  refine RL.q ((by exact Qt.cvtI rfl (by dsimp only [inK]; omega))) ?_
  refine RL.q ((by exact Qt.remI rfl rfl (by omega))) ?_
  refine RL.q ((by exact Qt.addI rfl rfl (by dsimp only [inK]; omega))) ?_
  refine RL.q (Qt.as rfl) ?_
  refine RL.nil ?_
  refine RE.sqN ?_
  refine RC.seq ?_
  refine RC.region rfl ?_
  refine RL.q (Qt.mv rfl) ?_
  refine RL.q (Qt.fld rfl) ?_
  refine RL.q (Qt.ld rfl (by exact hS.at 4 rfl) (by first  | rfl)) ?_
  refine RL.q (Qt.fld rfl) ?_
  refine RL.q (Qt.ld rfl (by exact hS.at 4 rfl) (by first  | rfl)) ?_
  refine RL.e (Ef.call hS (prBest _ _ _ _ _ L x.proc x.draw hdx) rfl rfl Try.call18 [1] [0, 2, 3, 4, 5] (by decide) rfl rfl) ?_
  rintro v42 w ⟨ps, ⟨rfl, rfl⟩, hS⟩
  refine RL.q (Qt.mv rfl) ?_
  refine RL.q (Qt.ext rfl rfl) ?_
  refine RL.q (Qt.ext rfl rfl) ?_
  refine RL.q (Qt.ext rfl rfl) ?_
  refine RL.q (Qt.ext rfl rfl) ?_
  refine RL.e (Ef.alloc hS) ?_
  rintro _ w ⟨b12, rfl, hS⟩
  try simp (disch := omega) only [cells_agg'] at hS
  refine RL.q (Qt.as rfl) ?_
  refine RL.e0 (Ef.st hS 0 rfl rfl rfl (by rfl) (by rfl) (by exact Nat.le_of_ble_eq_true rfl)) ?_
  intro _ w hS
  simp (disch := omega) only [List.set_cons_zero, cells_agg'] at hS
  refine RL.q (Qt.as rfl) ?_
  refine RL.q (Qt.as rfl) ?_
  refine RL.nil ?_
  refine RE.sqN ?_
  refine RC.seq ?_
  refine RC.seq ?_
  refine RC.region rfl ?_
  refine RL.q (Qt.fld rfl) ?_
  refine RL.q (Qt.ld rfl (by exact hS.at 5 rfl) (by first  | rfl)) ?_
  refine RL.q (Qt.lss rfl rfl) ?_
  refine RL.q (Qt.mv rfl) ?_
  refine RLG.start 50 false rfl ?_
  refine RLG.q rfl rfl rfl (fun _ => Qt.fld rfl) ?_
  refine RLG.q rfl rfl rfl (fun hg => by (try simp only [decide_eq_false_iff_not] at hg); exact Qt.ld rfl (by exact hS.at 5 rfl) (by first  | rfl)) ?_
  refine RLG.q rfl rfl rfl (fun _ => Qt.mv rfl) ?_
  refine RLG.q rfl rfl rfl (fun hg => by (try simp only [decide_eq_false_iff_not] at hg); exact Qt.geq rfl rfl) ?_
  refine RLG.or rfl rfl ?_
  refine RL.nil ?_
  refine RE.sqN ?_
  rw [hnp]
  refine RC.cond rfl (fun h => ?_) (fun h => ?_)
  · refine RC.seq ?_
    refine RC.region rfl ?_
    refine RL.q (Qt.mv rfl) ?_
    refine RL.q (Qt.not rfl) ?_
    refine RL.q (Qt.as rfl) ?_
    refine RL.nil ?_
    refine RE.sqN ?_
    refine RC.ret ?_
    refine RE.sqR ?_
    have h : x.proc < 0 ∨ x.proc ≥ prNp n := by simpa using h
    have e : prB L (prNp n) x.proc x.draw = -1 := if_pos h
    rw [e]
    exact RE.retB rfl ⟨rfl, rfl⟩ (hS.pick [4, 6] (by decide) rfl)
  · skip
    have h : ¬ (x.proc < 0 ∨ x.proc ≥ prNp n) := by simpa using h
    have hpr : 0 ≤ x.proc ∧ x.proc < prNp n := by omega
    have hso := prB_some hok hnp4.1 hpr x.draw
    have hmax := fun q hq hne => prB_max (L := L) hnp4.1 hpr x.draw (q := q) hq hne
    have hown := prB_own (L := L) hnp4.1 hpr x.draw
    have hrg := prB_range (L := L) hnp4.1 x.proc x.draw
    generalize prB L (prNp n) x.proc x.draw = bb at *
    refine RC.skip ?_
    refine RE.sqN ?_
    refine RC.seq ?_
    refine RC.seq ?_
    refine RC.region rfl ?_
    refine RL.q (Qt.mv rfl) ?_
    refine RL.q (Qt.mv rfl) ?_
    refine RL.e (Ef.call hS (rpLen _ _ _ _ L) rfl rfl Try.call26 [3] [0, 1, 2, 4, 5, 6] (by decide) rfl rfl) ?_
    rintro v60 w ⟨ps, ⟨rfl, rfl⟩, hS⟩
    refine RL.q (Qt.gtr rfl rfl) ?_
    refine RL.q (Qt.neqB rfl rfl) ?_
    refine RL.nil ?_
    refine RE.sqN ?_
    rw [hso]
    refine RC.condF rfl (by simp) ?_
    refine RC.skip ?_
    refine RE.sqN ?_
    refine RC.seq ?_
    refine RC.seq ?_
    refine RC.region rfl ?_
    refine RL.q (Qt.as rfl) ?_
    refine RL.nil ?_
    refine RE.sqN ?_
    refine RC.block ?_
    refine RC.loop (γ := Nat) (fun i E w' => E = [(15, .int .i64 i), (10, .int .i64 (prNp n)), (14, .bool (decide (prLen L > 0))), (13, .int .i64 (prBAt bb)), (12, .pointer (some ⟨b12, 0, none⟩)), (7, .pointer (some ⟨b, 0, none⟩)), (8, r), (5, .pointer (some ⟨b5, 0, none⟩))] ∧ i ≤ prNp n + 1 ∧
      Sat oo w' [rpO r (prNp n) 10 (prQu n) L, pO (.pointer (some ⟨b, 0, none⟩)) (prNp n) 10 (prQu n) 80 L, pt b12 (.cells (wr #[.bool false, .int .u64 0, .int .u8 0] 0 (prBK L bb).cells) 31 (0, 0)), pin F0, pt b5 (.cells x.cells.toArray 41 (0, 0)), R]) (fun i => prNp n + 1 - i) 0 _ (by (repeat (first | exact Sub.nil | refine Sub.cons rfl ?_))) ⟨rfl, by omega, hS.pick [0, 2, 1, 4, 5, 6] (by decide) rfl⟩ ?_
    clear hS
    rintro i E w ⟨rfl, hi, hS⟩
    refine RC.seq ?_
    refine RC.seq ?_
    refine RC.region rfl ?_
    refine RL.q (Qt.mv rfl) ?_
    refine RL.q (Qt.mv rfl) ?_
    refine RL.q (Qt.leq rfl rfl) ?_
    refine RL.q (Qt.mv rfl) ?_
    refine RLG.start 66 true rfl ?_
    refine RLG.q rfl rfl rfl (fun _ => Qt.mv rfl) ?_
    refine RLG.and rfl rfl ?_
    refine RL.nil ?_
    refine RE.sqN ?_
    refine RC.cond rfl (fun h2 => ?_) (fun h2 => ?_)
    · skip
      have h2 : i ≤ prNp n ∧ prLen L > 0 := by simpa using h2
      have hpl : prList L (prNp n) i = kIds (L.getD i []) := by rw [prList, if_neg (by omega), Int.toNat_natCast]
      have hll := prList_len hok i
      refine RC.skip ?_
      refine RE.sqN ?_
      refine RC.seq ?_
      refine RC.block ?_
      refine RC.seq ?_
      refine RC.region rfl ?_
      refine RL.q (Qt.mv rfl) ?_
      refine RL.q (Qt.mv rfl) ?_
      refine RL.e (Ef.call hS (prListC _ _ _ _ _ L i) rfl rfl Try.call27 [1] [0, 2, 3, 4, 5] (by decide) rfl rfl) ?_
      rintro v73 w ⟨ps, rfl, hS⟩
      rw [hpl] at hS hll
      obtain ⟨so, co, rfl⟩ := hS.ownForm 0 rfl
      refine RL.q (Qt.as rfl) ?_
      refine RL.nil ?_
      refine RE.sqN ?_
      refine RC.seq ?_
      refine RC.seq ?_
      refine RC.region rfl ?_
      refine RL.q (Qt.mv rfl) ?_
      refine RL.q (Qt.lenS rfl) ?_
      refine RL.q (Qt.eql rfl rfl) ?_
      refine RL.nil ?_
      refine RE.sqN ?_
      refine RC.cond rfl (fun h3 => ?_) (fun h3 => ?_)
      · refine RC.exit ?_
        refine RE.sqX ?_
        refine RE.bkX ?_
        refine RE.sqN ?_
        refine RC.region rfl ?_
        refine RL.q (Qt.mv rfl) ?_
        refine RL.q ((by exact Qt.addI rfl rfl (by dsimp only [inK]; omega))) ?_
        refine RL.q (Qt.as rfl) ?_
        refine RL.nil ?_
        apply RE.lpN (i + 1)
        case hI => exact ⟨rfl, by omega, hS.pick [2, 1, 3, 4, 5, 6] (by decide) rfl⟩
        case hs => (repeat (first | exact Sub.nil | refine Sub.cons rfl ?_))
        case hm =>
          show prNp n + 1 - (i + 1) < prNp n + 1 - i
          omega
      · skip
        cases hl : L.getD i [] with
        | nil => rw [hl] at h3; exact absurd h3 (by decide)
        | cons y t =>
          have hyi : y ∈ L.getD i [] := by rw [hl]; simp
          have hne : L.getD (i : Int).toNat [] ≠ [] := by rw [Int.toNat_natCast, hl]; simp
          have hmx := hmax i (by omega) hne
          have htop : kTopK (L.getD (i : Int).toNat []) = y.k := by rw [Int.toNat_natCast, hl]; rfl
          rw [htop] at hmx
          have hbk : prBK L bb = kTopK (L.getD bb.toNat []) := if_neg (by omega)
          rw [← hbk] at hmx hown
          have hba : prBAt bb = bb := if_neg (by omega)
          have hpos : 0 < (kIds (y :: t)).length := by simp [kIds]
          have e0 : ∀ h, (kIds (L.getD i []))[0]'h = y.id := by rw [hl]; intro h; rfl
          obtain ⟨bo, capo, cc, hvo, hd1, hd2, hd3, hd4, hS⟩ := hS.ownPos 0 rfl (by rw [hl]; simp [kIds])
          cases hvo
          have hic := int_cell hd4 (by simp) (i := 0) (by rw [hl]; simp [kIds])
          rw [e0] at hic
          refine RC.skip ?_
          refine RE.sqN ?_
          refine RC.seq ?_
          refine RC.region rfl ?_
          refine RL.q (Qt.mv rfl) ?_
          refine RL.e (Ef.call hS (rpFork _ _ _ _ L) rfl rfl Try.call28 [2] [0, 1, 3, 4, 5, 6] (by decide) rfl rfl) ?_
          rintro v78 w ⟨ps, ⟨⟨bf, rfl⟩, rfl⟩, hS⟩
          refine RL.q (Qt.as rfl) ?_
          refine RL.nil ?_
          refine RE.sqN ?_
          refine RC.seq ?_
          refine RC.region rfl ?_
          refine RL.q (Qt.mv rfl) ?_
          refine RL.q (Qt.mv rfl) ?_
          refine RL.q (Qt.mv rfl) ?_
          refine RL.q (Qt.ixS rfl rfl (by omega) (by omega)) ?_
          refine RL.q (Qt.ld rfl (by exact hS.at 2 rfl) (by exact hic)) ?_
          refine RL.e (Ef.call hS (prTopKey _ (prNp n) 10 (prQu n) L i y i hyi (by omega)) rfl rfl Try.call29 [0] [1, 2, 3, 4, 5, 6, 7] (by decide) rfl rfl) ?_
          rintro v84 w ⟨ps, ⟨rfl, rfl⟩, hS⟩
          try rw [List.nil_append] at hS
          refine RL.e (Ef.alloc hS) ?_
          rintro _ w ⟨b18, rfl, hS⟩
          try simp (disch := omega) only [cells_agg'] at hS
          refine RL.e0 (Ef.st hS 0 rfl rfl rfl (by rfl) (by rfl) (by exact Nat.le_of_ble_eq_true rfl)) ?_
          intro _ w hS
          simp (disch := omega) only [List.set_cons_zero, cells_agg'] at hS
          refine RL.nil ?_
          refine RE.sqN ?_
          refine RC.seq ?_
          refine RC.region rfl ?_
          refine RL.q (Qt.ldA rfl (by exact hS.at 0 rfl) (by exact hkw _) (by exact Nat.le_of_ble_eq_true rfl)) ?_
          refine RL.q (Qt.ldA rfl (by exact hS.at 4 rfl) (by exact hkw _) (by exact Nat.le_of_ble_eq_true rfl)) ?_
          refine RL.e (Ef.call hS (rkAbove _ _) rfl rfl Try.call30 [] [0, 1, 2, 3, 4, 5, 6, 7] (by decide) rfl rfl) ?_
          rintro v87 w ⟨ps, ⟨rfl, rfl⟩, hS⟩
          try rw [List.nil_append] at hS
          rw [hmx.2]
          by_cases hip : (i : Int) = x.proc
          · have hpi : decide ((i : Int) = x.proc) = true := decide_eq_true hip
            by_cases hk : y.k = prBK L bb
            · have hkd : decide (y.k = prBK L bb) = true := by simp [hk]
              rw [← hip, Int.toNat_natCast] at hown
              have hbo := hown (by rw [hl]; simp) (by rw [hl]; exact hk)
              have hbi : prBAt bb = (i : Int) := by rw [hba, hbo]
              rw [hbi]
              refine RL.q (Qt.mv rfl) ?_
              refine RL.q (Qt.mv rfl) ?_ (Runs.guard rfl rfl rfl (rfl))
              refine RL.q (Qt.fld rfl) ?_ (Runs.guard rfl rfl rfl (rfl))
              refine RL.q (Qt.ld rfl (by exact hS.at 6 rfl) (by rfl)) ?_ (Runs.guard rfl rfl rfl (rfl))
              refine RL.q (Qt.eql rfl rfl) ?_ (Runs.guard rfl rfl rfl (rfl))
              refine RL.q (Qt.mv rfl) ?_ (Runs.guard rfl rfl rfl (rfl))
              refine RL.q (Qt.ldA rfl (by exact hS.at 0 rfl) (by exact hkw _) (by exact Nat.le_of_ble_eq_true rfl)) ?_ (Runs.guard rfl rfl rfl (hpi))
              refine RL.q (Qt.ldA rfl (by exact hS.at 4 rfl) (by exact hkw _) (by exact Nat.le_of_ble_eq_true rfl)) ?_ (Runs.guard rfl rfl rfl (hpi))
              refine RL.q (Qt.eqlT rfl rfl (keyEq y.k (prBK L bb))) ?_ (Runs.guard rfl rfl rfl (hpi))
              refine RL.q ((by exact Qt.pickT rfl (by assumption) rfl)) ?_ (Runs.guard rfl rfl rfl (rfl))
              refine RL.q (Qt.mv rfl) ?_ (Runs.guard rfl rfl rfl (rfl))
              refine RL.q (Qt.mv rfl) ?_ (Runs.guard rfl rfl rfl (hkd))
              refine RL.q (Qt.fld rfl) ?_ (Runs.guard rfl rfl rfl (hkd))
              refine RL.q (Qt.ld rfl (by exact hS.at 6 rfl) (by rfl)) ?_ (Runs.guard rfl rfl rfl (hkd))
              refine RL.q (Qt.neq rfl rfl) ?_ (Runs.guard rfl rfl rfl (hkd))
              refine RL.q ((by exact Qt.pickT rfl (by assumption) rfl)) ?_ (Runs.guard rfl rfl rfl (rfl))
              refine RL.q ((by exact Qt.pickF rfl rfl rfl)) ?_
              refine RL.nil ?_
              refine RE.sqN ?_
              refine RC.condF rfl (by simp [hip]) ?_
              refine RC.skip ?_
              refine RE.bkN ?_
              refine RE.sqN ?_
              refine RC.region rfl ?_
              refine RL.q (Qt.mv rfl) ?_
              refine RL.q ((by exact Qt.addI rfl rfl (by dsimp only [inK]; omega))) ?_
              refine RL.q (Qt.as rfl) ?_
              refine RL.nil ?_
              apply RE.lpN (i + 1)
              case hI => exact ⟨rfl, by omega, hS.pick [1, 3, 4, 5, 6, 7] (by decide) rfl⟩
              case hs => (repeat (first | exact Sub.nil | refine Sub.cons rfl ?_))
              case hm =>
                show prNp n + 1 - (i + 1) < prNp n + 1 - i
                omega
            · skip
              refine RL.q (Qt.mv rfl) ?_
              refine RL.q (Qt.mv rfl) ?_ (Runs.guard rfl rfl rfl (rfl))
              refine RL.q (Qt.fld rfl) ?_ (Runs.guard rfl rfl rfl (rfl))
              refine RL.q (Qt.ld rfl (by exact hS.at 6 rfl) (by rfl)) ?_ (Runs.guard rfl rfl rfl (rfl))
              refine RL.q (Qt.eql rfl rfl) ?_ (Runs.guard rfl rfl rfl (rfl))
              refine RL.q (Qt.mv rfl) ?_ (Runs.guard rfl rfl rfl (rfl))
              refine RL.q (Qt.ldA rfl (by exact hS.at 0 rfl) (by exact hkw _) (by exact Nat.le_of_ble_eq_true rfl)) ?_ (Runs.guard rfl rfl rfl (hpi))
              refine RL.q (Qt.ldA rfl (by exact hS.at 4 rfl) (by exact hkw _) (by exact Nat.le_of_ble_eq_true rfl)) ?_ (Runs.guard rfl rfl rfl (hpi))
              refine RL.q (Qt.eqlT rfl rfl (keyEq y.k (prBK L bb))) ?_ (Runs.guard rfl rfl rfl (hpi))
              refine RL.q ((by exact Qt.pickT rfl (by assumption) rfl)) ?_ (Runs.guard rfl rfl rfl (rfl))
              refine RL.q (Qt.mv rfl) ?_ (Runs.guard rfl rfl rfl (rfl))
              refine RL.s (Skips.guard rfl rfl rfl (by simp [hk])) ?_
              refine RL.s (Skips.guard rfl rfl rfl (by simp [hk])) ?_
              refine RL.s (Skips.guard rfl rfl rfl (by simp [hk])) ?_
              refine RL.s (Skips.guard rfl rfl rfl (by simp [hk])) ?_
              refine RL.q ((by exact Qt.pickF rfl (by simp [hk]) rfl)) ?_ (Runs.guard rfl rfl rfl (rfl))
              refine RL.q ((by exact Qt.pickF rfl rfl rfl)) ?_
              refine RL.nil ?_
              refine RE.sqN ?_
              refine RC.condF rfl (by simp) ?_
              refine RC.skip ?_
              refine RE.bkN ?_
              refine RE.sqN ?_
              refine RC.region rfl ?_
              refine RL.q (Qt.mv rfl) ?_
              refine RL.q ((by exact Qt.addI rfl rfl (by dsimp only [inK]; omega))) ?_
              refine RL.q (Qt.as rfl) ?_
              refine RL.nil ?_
              apply RE.lpN (i + 1)
              case hI => exact ⟨rfl, by omega, hS.pick [1, 3, 4, 5, 6, 7] (by decide) rfl⟩
              case hs => (repeat (first | exact Sub.nil | refine Sub.cons rfl ?_))
              case hm =>
                show prNp n + 1 - (i + 1) < prNp n + 1 - i
                omega
          · have hpi : decide ((i : Int) = x.proc) = false := decide_eq_false hip
            refine RL.q (Qt.mv rfl) ?_
            refine RL.q (Qt.mv rfl) ?_ (Runs.guard rfl rfl rfl (rfl))
            refine RL.q (Qt.fld rfl) ?_ (Runs.guard rfl rfl rfl (rfl))
            refine RL.q (Qt.ld rfl (by exact hS.at 6 rfl) (by rfl)) ?_ (Runs.guard rfl rfl rfl (rfl))
            refine RL.q (Qt.eql rfl rfl) ?_ (Runs.guard rfl rfl rfl (rfl))
            refine RL.q (Qt.mv rfl) ?_ (Runs.guard rfl rfl rfl (rfl))
            refine RL.s (Skips.guard rfl rfl rfl (hpi)) ?_
            refine RL.s (Skips.guard rfl rfl rfl (hpi)) ?_
            refine RL.s (Skips.guard rfl rfl rfl (hpi)) ?_
            refine RL.q ((by exact Qt.pickF rfl (by assumption) rfl)) ?_ (Runs.guard rfl rfl rfl (rfl))
            refine RL.q (Qt.mv rfl) ?_ (Runs.guard rfl rfl rfl (rfl))
            refine RL.s (Skips.guard rfl rfl rfl (rfl)) ?_
            refine RL.s (Skips.guard rfl rfl rfl (rfl)) ?_
            refine RL.s (Skips.guard rfl rfl rfl (rfl)) ?_
            refine RL.s (Skips.guard rfl rfl rfl (rfl)) ?_
            refine RL.q ((by exact Qt.pickF rfl rfl rfl)) ?_ (Runs.guard rfl rfl rfl (rfl))
            refine RL.q ((by exact Qt.pickF rfl rfl rfl)) ?_
            refine RL.nil ?_
            refine RE.sqN ?_
            refine RC.condF rfl (by simp) ?_
            refine RC.skip ?_
            refine RE.bkN ?_
            refine RE.sqN ?_
            refine RC.region rfl ?_
            refine RL.q (Qt.mv rfl) ?_
            refine RL.q ((by exact Qt.addI rfl rfl (by dsimp only [inK]; omega))) ?_
            refine RL.q (Qt.as rfl) ?_
            refine RL.nil ?_
            apply RE.lpN (i + 1)
            case hI => exact ⟨rfl, by omega, hS.pick [1, 3, 4, 5, 6, 7] (by decide) rfl⟩
            case hs => (repeat (first | exact Sub.nil | refine Sub.cons rfl ?_))
            case hm =>
              show prNp n + 1 - (i + 1) < prNp n + 1 - i
              omega
    · refine RC.exit ?_
      refine RE.sqX ?_
      refine RE.lpX ?_
      refine RE.bkX ?_
      refine RE.sqN ?_
      refine RC.seq ?_
      refine RC.region rfl ?_
      refine RL.q (Qt.as rfl) ?_
      refine RL.nil ?_
      refine RE.sqN ?_
      refine RC.ret ?_
      exact RE.retB rfl ⟨rfl, rfl⟩ (hS.pick [3, 5] (by decide) rfl)
end Go.Proofs

/- ProcsBest, for every input: nothing that stands anywhere is more urgent than what a processor would take; of the same its own goes first; the arguments read as before. No condition. -/
namespace Go.Proofs
open Go Go.Gx Go.ChangeShapes Go.WideShapes Go.ChangeAt Go.RowKit Go.Deep
namespace Ytieanejabjhnjaa
set_option maxRecDepth 100000 in
theorem procsBest_lifted (os : Os) (started : os.Started) (H : Type) (enc : TypeId × Value → H) :
    ReturnsInHanded {} Try.checked os 7 .any (Rows.procsBestSpec.pre6 enc Try.prog Try.f7 Rows.procsBestRow.domain false) (Rows.procsBestSpec.post enc Try.prog Try.f7 false true false false) := by
  refine returnsInHanded_of_change (C := Try.checked) own_knob started (by kernel_rfl) Try.func7
    (ChangeSpec.witness6 (enc := enc) (C := Try.checked) false ⟨#[], #[.int .u8 0, .slice none 0 0, .agg #[.int .i64 0, .int .i64 0, .int .i64 0, .bool false, .int .u64 0, .int .u8 0, .int .u64 0]], []⟩ 8 (by kernel_rfl) (by kernel_rfl) (by kernel_rfl) (by kernel_rfl)) ?_
  intro W base args ds gs before hval0 hW hcnd _
  have hval : ∀ (j : Nat) t v, Try.f7.params[j]? = some t → args[j]? = some v → Value.okWide Try.prog W .any base t v := hval0
  have hW' := hW
  obtain ⟨p, q, hA0, hV, rfl, hfz, hnd⟩ := hW
  have hA : DataW.TrodAll enc Try.prog W 0 (fun _ => true) true Try.f7.params.toList args.toList ds p := hA0
  rw [Try.params7] at hA hval
  obtain ⟨v0, v1, v2, d0, d1, d2, p0, p1, p2, rfl, rfl, rfl, h0, h1, h2⟩ := trodAll_three hA
  obtain ⟨rfl, rfl⟩ := trodVars_none hV
  obtain ⟨n, rfl, _, _, wn⟩ := open_int (TI.u (P := Try.prog) (t := 5)) (hval 0 _ v0 rfl rfl) h0
  obtain ⟨dl, hdl, okdl⟩ := prDeeds_open (hval 1 _ v1 rfl rfl) h1
  obtain ⟨x, rfl, okx⟩ := prDeed_open (hval 2 _ v2 rfl rfl) h2
  refine (prLawBest n (bounds_u8 wn) v1 dl x (allOf W) hdl okdl okx).law.mono fun e W' ⟨he, hb⟩ => ?_
  subst he
  exact ⟨_, rfl, law_post laid_out (by rw [Try.params7]; decide +kernel) hW' rfl hb rfl (TI.u (P := Try.prog) (t := 4)) rfl rfl rfl⟩

theorem procsBest_holds : Rows.ProcsBestSaid :=
  OpenClaim.holds_of_wide 7 Try.f7 rfl rfl rfl rfl rfl rfl rfl ⟨rfl, rfl, rfl, rfl, rfl⟩ rfl rfl rfl rfl rfl (by kernel_rfl) Try.func7 (by show joinedFacts Try.prog 7 Try.f7 Rows.procsBestSpec Rows.procsBestRow = true; unfold joinedFacts; rw [may_enter, lifts_final, make_is]; kernel_rfl)
    (of_decide_eq_true (by kernel_rfl)) (by unfold Func.isWrapper; (rw [if_neg (by decide +kernel)]; exact ⟨rfl, rfl⟩))
    (fun os started H enc _ => procsBest_lifted os started H enc)
end Ytieanejabjhnjaa
end Go.Proofs

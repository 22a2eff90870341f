/- TopSteals, for every input: each processor would take the most urgent one first, wherever it stands; the arguments read as before. No condition. -/
import Derived.Test.YtieanejabjhnjaaMpf
import Derived.OpenShut
import Derived.Test.YtieanejabjhnjaaRows
/- The law ProcsBest answers true. -/
namespace Go.Proofs
open Go Go.Gx
variable {oo : World}

theorem getD_some {L : List (List KItem)} {k : Nat} {y : KItem} (h : y ∈ L.getD k []) : ∃ hk : k < L.length, y ∈ L[k] := by
  rcases Nat.lt_or_ge k L.length with hk | hk
  · exact ⟨hk, by rwa [getD_at hk] at h⟩
  · rw [List.getD_eq_getElem?_getD, List.getElem?_eq_none hk] at h; simp at h
theorem prRem_mem {np nt : Nat} {L : List (List KItem)} (hp : PrOk np nt L) (a : Int) {k : Nat} {y : KItem} : y ∈ (prRem L nt a).getD k [] ↔ y ∈ L.getD k [] ∧ y.id ≠ a := by
  by_cases hok : pwOk L a = true
  · obtain ⟨i, hi, ha, hm⟩ := pw_get hok
    have hr : 0 ≤ a ∧ a < nt := by
      obtain ⟨z, hz, rfl⟩ := List.mem_map.1 hm
      exact (hp.at hi).range z hz
    have he : prErr L nt a true true = 0 := prErr_ok1 (by simp; omega) hok
    have e : prRem L nt a = L.set i (kout L[i] a) := by rw [prRem, if_pos he, ha, Int.toNat_natCast, prUpd_at hi]
    rw [e]
    constructor
    · intro h
      obtain ⟨hk0, g⟩ := getD_some h
      have hk : k < L.length := by simpa using hk0
      clear h
      rw [List.getElem_set] at g
      rw [getD_at hk]
      split at g
      · subst_vars; exact mem_kout.1 g
      · rename_i hne
        refine ⟨g, fun e => hne ?_⟩
        exact hp.apart i k hi hk a hm (List.mem_map.2 ⟨y, g, e⟩)
    · rintro ⟨h, hne⟩
      obtain ⟨hk, h⟩ := getD_some h
      rw [getD_at (by rw [List.length_set]; exact hk), List.getElem_set]
      split
      · subst_vars; exact mem_kout.2 ⟨h, hne⟩
      · exact h
  · have e : prRem L nt a = L := by
      refine if_neg fun he => hok ?_
      by_cases h1 : a < 0 ∨ a ≥ nt ∨ true = false
      · rw [prErr_range h1] at he; cases he
      · cases hq : pwOk L a with
        | true => rfl
        | false => rw [prErr_none h1 hq] at he; cases he
    rw [e]
    refine ⟨fun h => ⟨h, fun e2 => hok ?_⟩, fun h => h.1⟩
    obtain ⟨hk, h⟩ := getD_some h
    exact pwOk_iff.2 ⟨_, List.getElem_mem hk, List.mem_map.2 ⟨y, h, e2⟩⟩
/-- Only one id stands anywhere: its key is the best one. -/
theorem prOnly {np nt : Nat} {L : List (List KItem)} (hp : PrOk np nt L) (h1 : 1 ≤ np) {x : KItem} {i : Nat} (hx : x ∈ L.getD i []) (hall : ∀ k, ∀ y ∈ L.getD k [], y.id = x.id) : prBK L (prB L np 0 0) = x.k := by
  obtain ⟨hi, hxi⟩ := getD_some hx
  have hlen := hp.len
  have hne : L.getD (i : Int).toNat [] ≠ [] := by
    rw [Int.toNat_natCast]
    exact List.ne_nil_of_mem hx
  obtain ⟨g0, _⟩ := prB_max h1 (L := L) (proc := 0) (by omega) 0 (q := i) (by omega) hne
  obtain ⟨_, _, g2⟩ := (prB_range (L := L) h1 0 0).resolve_left (by omega)
  generalize prB L np 0 0 = bb at *
  rw [prBK, if_neg (by omega)]
  cases e : L.getD bb.toNat [] with
  | nil => exact absurd e g2
  | cons y t =>
    have hy : y ∈ L.getD bb.toNat [] := by rw [e]; simp
    have hid := hall _ y hy
    obtain ⟨hb, hyb⟩ := getD_some hy
    have heq := hp.apart bb.toNat i hb hi x.id (by rw [← hid]; exact List.mem_map.2 ⟨y, hyb, rfl⟩) (List.mem_map.2 ⟨x, hxi, rfl⟩)
    subst heq
    have := kid_inj (hp.at hi).nodup hyb hxi hid
    subst this
    rfl

set_option maxHeartbeats 4000000 in
theorem prTopKey (r : Value) (np nt : Nat) (queue : Int) (L : List (List KItem)) (a : Int) (x : KItem) (i0 : Nat) (hx : x ∈ L.getD i0 []) (hn5 : 1 ≤ np ∧ np ≤ 5) : Ct Try.prog 29 #[r, .int .i64 a, .int .i64 x.id] [rpO r np nt queue L] (fun v ps => v = .agg x.k.cells.toArray ∧ ps = []) := by
  refine Ct.enter Try.func29 rfl (Nat.le_of_ble_eq_true rfl) ?_
  intro oo w R hS
  change RC _ _ _ _ _ _ [(0, _), (1, _), (2, _)] _
  obtain ⟨bq, sp0, cap0, vs0, rfl, hp, hv0, hnp, hnt, hS⟩ := rpO_open hS
  have hS := rpO_shut hp hv0 hnp hnt hS
  have hkw : ∀ k : KKey, (wr #[.bool false, .int .u64 0, .int .u8 0] 0 k.cells).extract 0 (0 + 3) = k.cells.toArray := fun k => rfl
  refine RC.seq ?_
  refine RC.region rfl ?_
  refine RL.e (Ef.alloc hS) ?_
  rintro _ w ⟨b6, rfl, hS⟩
  try simp (disch := omega) only [cells_agg'] at hS
  refine RL.nil ?_
  refine RE.sqN ?_
  refine RC.seq ?_
  refine RC.seq ?_
  refine RC.region rfl ?_
  refine RL.q (Qt.as rfl) ?_
  refine RL.nil ?_
  refine RE.sqN ?_
  refine RC.block ?_
  refine RC.loop (γ := Nat × List (List KItem)) (fun g E w' => E = [(7, .int .i64 g.1), (6, .pointer (some ⟨b6, 0, none⟩)), (0, .pointer (some ⟨bq, 0, none⟩)), (2, .int .i64 x.id)] ∧ (g.1 ≤ 6 ∧ PrOk np nt g.2 ∧ x ∈ g.2.getD i0 [] ∧ ∀ k < g.1, ∀ y ∈ g.2.getD k [], y.id = x.id) ∧
    Sat oo w' [rpO (.pointer (some ⟨bq, 0, none⟩)) np nt queue g.2, pt b6 (.cells #[.bool false, .int .u64 0, .int .u8 0] 31 (0, 0)), R]) (fun g => 6 - g.1) (0, L) _ (by (repeat (first | exact Sub.nil | refine Sub.cons rfl ?_))) ⟨rfl, ⟨by dsimp only; omega, hp, hx, fun k hk => by dsimp only at hk; omega⟩, hS.pick [1, 0, 2] (by decide) rfl⟩ ?_
  clear hS hp hv0 hx
  rintro ⟨i, L⟩ E w ⟨rfl, ⟨hi, hp, hx, hall⟩, hS⟩
  dsimp only at hi hp hx hall hS
  refine RC.seq ?_
  refine RC.seq ?_
  refine RC.region rfl ?_
  refine RL.q (Qt.mv rfl) ?_
  refine RL.q (Qt.lss rfl rfl) ?_
  refine RL.nil ?_
  refine RE.sqN ?_
  refine RC.cond rfl (fun h => ?_) (fun h => ?_)
  · skip
    have h : i < 6 := by
      have := of_decide_eq_true h
      omega
    refine RC.skip ?_
    refine RE.sqN ?_
    refine RC.seq ?_
    refine RC.block ?_
    refine RC.seq ?_
    refine RC.region rfl ?_
    refine RL.q (Qt.mv rfl) ?_
    refine RL.q (Qt.mv rfl) ?_
    refine RL.e (Ef.call hS (rpList _ np nt queue L i) rfl rfl Try.call49 [0] [1, 2] (by decide) rfl rfl) ?_
    rintro v20 w ⟨ps, rfl, hS⟩
    have hll := prList_len hp i
    have hpl : ∀ y ∈ L.getD i [], y.id ∈ prList L np i := fun y hy => by
      obtain ⟨hk, hy⟩ := getD_some hy
      have := hp.len
      rw [prList, if_neg (by omega), Int.toNat_natCast, getD_at hk]
      exact List.mem_map.2 ⟨y, hy, rfl⟩
    generalize prList L np i = l at *
    obtain ⟨so, co, rfl⟩ := hS.ownForm 0 rfl
    refine RL.q (Qt.as rfl) ?_
    refine RL.nil ?_
    refine RE.sqN ?_
    refine RC.seq ?_
    refine RC.region rfl ?_
    refine RL.q (Qt.as rfl) ?_
    refine RL.nil ?_
    refine RE.sqN ?_
    refine RC.block ?_
    refine RC.loop (γ := Nat × List (List KItem)) (fun g E w' => E = [(9, .int .i64 g.1), (8, .slice so l.length co), (7, .int .i64 i), (6, .pointer (some ⟨b6, 0, none⟩)), (0, .pointer (some ⟨bq, 0, none⟩)), (2, .int .i64 x.id)] ∧ (g.1 ≤ l.length ∧ PrOk np nt g.2 ∧ x ∈ g.2.getD i0 [] ∧ (∀ k < i, ∀ y ∈ g.2.getD k [], y.id = x.id) ∧ ∀ y ∈ g.2.getD i [], y.id = x.id ∨ y.id ∈ l.drop g.1) ∧
      Sat oo w' [ownI (.slice so l.length co) l, rpO (.pointer (some ⟨bq, 0, none⟩)) np nt queue g.2, pt b6 (.cells #[.bool false, .int .u64 0, .int .u8 0] 31 (0, 0)), R]) (fun g => l.length - g.1) (0, L) _ (by (repeat (first | exact Sub.nil | refine Sub.cons rfl ?_))) ⟨rfl, ⟨by dsimp only; omega, hp, hx, hall, fun y hy => .inr (hpl y hy)⟩, hS⟩ ?_
    clear hS hp hx hall hpl
    rintro ⟨j, L⟩ E w ⟨rfl, ⟨hj, hp, hx, hall, hpl⟩, hS⟩
    dsimp only at hj hp hx hall hpl hS
    refine RC.seq ?_
    refine RC.seq ?_
    refine RC.region rfl ?_
    refine RL.q (Qt.mv rfl) ?_
    refine RL.q (Qt.mv rfl) ?_
    refine RL.q (Qt.lenS rfl) ?_
    refine RL.q (Qt.lss rfl rfl) ?_
    refine RL.nil ?_
    refine RE.sqN ?_
    refine RC.cond rfl (fun h2 => ?_) (fun h2 => ?_)
    · skip
      have h2 : j < l.length := by simpa using h2
      have hd : l.drop j = l[j] :: l.drop (j + 1) := List.drop_eq_getElem_cons h2
      obtain ⟨bo, capo, cc, hvo, hd1, hd2, hd3, hd4, hS⟩ := hS.ownPos 0 rfl (by omega)
      cases hvo
      have hic := int_cell hd4 (by simp) h2
      rw [hd] at hpl
      generalize l[j] = ia at *
      refine RC.skip ?_
      refine RE.sqN ?_
      refine RC.seq ?_
      refine RC.block ?_
      refine RC.seq ?_
      refine RC.region rfl ?_
      refine RL.q (Qt.mv rfl) ?_
      refine RL.q (Qt.mv rfl) ?_
      refine RL.q (Qt.ixS rfl rfl (by omega) (by omega)) ?_
      refine RL.q (Qt.ld rfl (by exact hS.at 0 rfl) (by exact hic)) ?_
      refine RL.q (Qt.mv rfl) ?_
      refine RL.q (Qt.neq rfl rfl) ?_
      refine RL.nil ?_
      refine RE.sqN ?_
      refine RC.cond rfl (fun h3 => ?_) (fun h3 => ?_)
      · skip
        have h3 : ia ≠ x.id := of_decide_eq_true h3
        refine RC.region rfl ?_
        refine RL.q (Qt.mv rfl) ?_
        refine RL.q (Qt.mv rfl) ?_
        refine RL.q (Qt.mv rfl) ?_
        refine RL.q (Qt.ixS rfl rfl (by omega) (by omega)) ?_
        refine RL.q (Qt.ld rfl (by exact hS.at 0 rfl) (by exact hic)) ?_
        refine RL.e (Ef.call hS (rpRemove _ np nt queue L ia) rfl rfl Try.call50 [1] [0, 2, 3] (by decide) rfl rfl) ?_
        rintro v38 w ⟨ps, ⟨rfl, rfl⟩, hS⟩
        refine RL.nil ?_
        refine RE.bkN ?_
        refine RE.sqN ?_
        refine RC.region rfl ?_
        refine RL.q (Qt.mv rfl) ?_
        refine RL.q ((by exact Qt.addI rfl rfl (by dsimp only [inK]; omega))) ?_
        refine RL.q (Qt.as rfl) ?_
        refine RL.nil ?_
        apply RE.lpN ((j + 1, prRem L nt ia))
        case hI =>
          refine ⟨rfl, ⟨h2, hp.rem _, (prRem_mem hp ia).2 ⟨hx, fun e => h3 e.symm⟩, fun k hk y hy => hall k hk y ((prRem_mem hp ia).1 hy).1, fun y hy => ?_⟩, (hS.pick [1, 0, 2, 3] (by decide) rfl).ownMk (cap := co) (n := l.length) (sz := 1) (cs := ints l) 0 rfl hd1 hd2 hd3 hd4⟩
          obtain ⟨g1, g2⟩ := (prRem_mem hp ia).1 hy
          rcases hpl y g1 with h | h
          · exact .inl h
          · rcases List.mem_cons.1 h with h | h
            · exact absurd h g2
            · exact .inr h
        case hs => (repeat (first | exact Sub.nil | refine Sub.cons rfl ?_))
        case hm =>
          show l.length - (j + 1) < l.length - j
          omega
      · refine RC.skip ?_
        refine RE.bkN ?_
        refine RE.sqN ?_
        refine RC.region rfl ?_
        refine RL.q (Qt.mv rfl) ?_
        refine RL.q ((by exact Qt.addI rfl rfl (by dsimp only [inK]; omega))) ?_
        refine RL.q (Qt.as rfl) ?_
        refine RL.nil ?_
        have h3 : ia = x.id := by simpa using h3
        apply RE.lpN ((j + 1, L))
        case hI =>
          refine ⟨rfl, ⟨h2, hp, hx, hall, fun y hy => ?_⟩, hS.ownMk (cap := co) (n := l.length) (sz := 1) (cs := ints l) 0 rfl hd1 hd2 hd3 hd4⟩
          rcases hpl y hy with h | h
          · exact .inl h
          · rcases List.mem_cons.1 h with h | h
            · exact .inl (h.trans h3)
            · exact .inr h
        case hs => (repeat (first | exact Sub.nil | refine Sub.cons rfl ?_))
        case hm =>
          show l.length - (j + 1) < l.length - j
          omega
    · skip
      have hge : l.length ≤ j := by
        have : ¬ j < l.length := by simpa using h2
        omega
      rw [List.drop_eq_nil_of_le hge] at hpl
      refine RC.exit ?_
      refine RE.sqX ?_
      refine RE.lpX ?_
      refine RE.bkX ?_
      refine RE.bkN ?_
      refine RE.sqN ?_
      refine RC.region rfl ?_
      refine RL.q (Qt.mv rfl) ?_
      refine RL.q ((by exact Qt.addI rfl rfl (by dsimp only [inK]; omega))) ?_
      refine RL.q (Qt.as rfl) ?_
      refine RL.nil ?_
      apply RE.lpN ((i + 1, L))
      case hI =>
        refine ⟨rfl, ⟨h, hp, hx, fun k hk y hy => ?_⟩, hS.pick [1, 2, 3] (by decide) rfl⟩
        rcases Nat.lt_or_ge k i with hk2 | hk2
        · exact hall k hk2 y hy
        · have : k = i := by
            dsimp only at hk
            omega
          subst this
          rcases hpl y hy with h | h
          · exact h
          · cases h
      case hs => (repeat (first | exact Sub.nil | refine Sub.cons rfl ?_))
      case hm =>
        show 6 - (i + 1) < 6 - i
        omega
  · skip
    have hge : i = 6 := by
      have := of_decide_eq_false h
      omega
    subst hge
    have hbk := prOnly hp hn5.1 hx fun k y hy => by
      obtain ⟨hk, _⟩ := getD_some hy
      have := hp.len
      exact hall k (by omega) y hy
    refine RC.exit ?_
    refine RE.sqX ?_
    refine RE.lpX ?_
    refine RE.bkX ?_
    refine RE.sqN ?_
    refine RC.seq ?_
    refine RC.region rfl ?_
    refine RL.q (Qt.mv rfl) ?_
    refine RL.e (Ef.call hS (rpBest _ np nt queue L 0 0 (by decide)) rfl rfl Try.call51 [0] [1, 2] (by decide) rfl rfl) ?_
    rintro v41 w ⟨ps, ⟨rfl, rfl⟩, hS⟩
    refine RL.q (Qt.mv rfl) ?_
    refine RL.q (Qt.ext rfl rfl) ?_
    refine RL.q (Qt.ext rfl rfl) ?_
    refine RL.q (Qt.ext rfl rfl) ?_
    refine RL.q (Qt.ext rfl rfl) ?_
    refine RL.e (Ef.alloc hS) ?_
    rintro _ w ⟨b11, rfl, hS⟩
    try simp (disch := omega) only [cells_agg'] at hS
    refine RL.q (Qt.as rfl) ?_
    refine RL.e0 (Ef.st hS 0 rfl rfl rfl (by rfl) (by rfl) (by exact Nat.le_of_ble_eq_true rfl)) ?_
    intro _ w hS
    simp (disch := omega) only [List.set_cons_zero, cells_agg'] at hS
    refine RL.q (Qt.as rfl) ?_
    refine RL.q (Qt.as rfl) ?_
    refine RL.nil ?_
    refine RE.sqN ?_
    refine RC.seq ?_
    refine RC.region rfl ?_
    refine RL.q (Qt.ldA rfl (by exact hS.at 0 rfl) (by exact hkw _) (by exact Nat.le_of_ble_eq_true rfl)) ?_
    refine RL.e0 (Ef.st hS 2 rfl rfl rfl (by rfl) (by rfl) (by exact Nat.le_of_ble_eq_true rfl)) ?_
    intro _ w hS
    simp (disch := omega) only [List.set_cons_succ, cells_agg'] at hS
    refine RL.nil ?_
    refine RE.sqN ?_
    refine RC.ret ?_
    rw [hbk] at hS
    exact RE.retW (vs := [.agg x.k.cells.toArray]) (by repeat (first | exact ResW.nil | refine ResW.tmp rfl ?_ | refine ResW.cell (by infer_instance) rfl rfl (by exact hS.get 2 rfl) rfl (Nat.le_of_ble_eq_true rfl) ?_)) ⟨rfl, rfl⟩ (hS.pick [3] (by decide) rfl)

theorem prLen_pos {L : List (List KItem)} : prLen L > 0 ↔ ∃ k, L.getD k [] ≠ [] := by
  have h0 : ∀ M : List (List KItem), 0 ≤ prLen M := fun M => by
    induction M with
    | nil => simp [prLen]
    | cons l t ih => rw [prLen_cons]; omega
  induction L with
  | nil => simp [prLen]
  | cons l t ih =>
    rw [prLen_cons]
    have ht := h0 t
    constructor
    · intro h
      by_cases hl : l = []
      · subst hl
        obtain ⟨k, hk⟩ := ih.1 (by simpa using h)
        exact ⟨k + 1, by simpa using hk⟩
      · exact ⟨0, by simpa using hl⟩
    · rintro ⟨k, hk⟩
      cases k with
      | zero =>
        have : 0 < l.length := List.length_pos_iff.2 (by simpa using hk)
        omega
      | succ k =>
        have := ih.2 ⟨k, by simpa using hk⟩
        omega
theorem prB_some {np nt : Nat} {L : List (List KItem)} (hp : PrOk np nt L) (h1 : 1 ≤ np) {proc : Int} (hpr : 0 ≤ proc ∧ proc < np) (draw : Int) : prBOk (prB L np proc draw) = decide (prLen L > 0) := by
  have hlen := hp.len
  rw [prBOk]
  apply decide_eq_decide.2
  rw [prLen_pos]
  constructor
  · intro h
    obtain ⟨_, _, g2⟩ := (prB_range (L := L) h1 proc draw).resolve_left (by omega)
    exact ⟨_, g2⟩
  · rintro ⟨k, hk⟩
    have hkl : k < L.length := by
      cases e : L.getD k [] with
      | nil => exact absurd e hk
      | cons y t => exact (getD_some (y := y) (by rw [e]; simp)).1
    exact (prB_max h1 hpr draw (q := k) (by omega) (by rw [Int.toNat_natCast]; exact hk)).1

set_option maxHeartbeats 4000000 in
theorem prLawBest (n : Int) (hn : 0 ≤ n ∧ n ≤ 255) (v : Value) (ds : List ODeed) (x : ODeed) (F0 : Frag) (hR : ODeedsAt v ds F0) (hd : ∀ x ∈ ds, x.ok) (hx : x.ok) : Ct Try.prog 7 #[.int .u8 n, v, x.val] [pin F0] (fun v' ps => v' = .bool true ∧ ps = [pin F0]) := by
  have hnp4 : 1 ≤ prNp n ∧ prNp n ≤ 4 := by unfold prNp; omega
  have hnp : n % 4 + 1 = (prNp n : Nat) := by unfold prNp; omega
  have hkw : ∀ k : KKey, (wr #[.bool false, .int .u64 0, .int .u8 0] 0 k.cells).extract 0 (0 + 3) = k.cells.toArray := fun k => rfl
  obtain ⟨_, hdx⟩ := hx
  refine Ct.enter Try.func7 rfl (Nat.le_of_ble_eq_true rfl) ?_
  intro oo w R hS
  change RC _ _ _ _ _ _ [(0, _), (1, _), (2, _)] _
  refine RC.seq ?_
  refine RC.region rfl ?_
  refine RL.e (Ef.box hS rfl) ?_
  rintro _ w ⟨b5, rfl, hS⟩
  try simp (disch := omega) only [List.set_cons_zero, List.set_cons_succ, cells_int, cells_bool, cells_ptr, cells_slice, cells_func, cells_agg, cells_map, cells_int', cells_bool', cells_ptr', cells_slice', cells_agg', cells_map', cells_func', Nat.zero_add, wr, List.setIfInBounds_toArray] at hS
  refine RL.q (Qt.as rfl) ?_
  refine RL.nil ?_
  refine RE.sqN ?_
  refine RC.seq ?_
  refine RC.region rfl ?_
  refine RL.q (Qt.mv rfl) ?_
  refine RL.q (Qt.mv rfl) ?_
  refine RL.e (Ef.call hS (prPlay n hn v ds F0 hR hd) rfl rfl Try.call22 [1] [0, 2] (by decide) rfl rfl) ?_
  rintro v22 w ⟨ps, ⟨b, r, L, rfl, hok, hro, rfl⟩, hS⟩
  refine RL.q (Qt.mv rfl) ?_
  refine RL.q (Qt.ext rfl rfl) ?_
  refine RL.q (Qt.ext rfl rfl) ?_
  refine RL.q (Qt.ext rfl rfl) ?_
  refine RL.q (Qt.as rfl) ?_
  refine RL.q (Qt.as rfl) ?_
  refine RL.q (Qt.as rfl) ?_
  refine RL.nil ?_
  refine RE.sqN ?_
  refine RC.seq ?_
  refine RC.seq ?_
  refine RC.region rfl ?_
  have hlen := hok.len
  refine RL.e (Ef.call hS (prLive) rfl rfl Try.call23 [] [0, 1, 2, 3, 4] (by decide) rfl rfl) ?_
  rintro v26 w ⟨ps, ⟨rfl, p', L', rfl⟩, hS⟩
  refine RL.q (Qt.not rfl) ?_
  refine RL.q (Qt.mv rfl) ?_
  refine RLG.start 28 false rfl ?_
  refine RLG.q rfl rfl rfl (fun _ => Qt.mv rfl) ?_
  refine RLG.q rfl rfl rfl (fun _ => Qt.not rfl) ?_
  refine RLG.or rfl rfl ?_
  refine RL.nil ?_
  refine RE.sqN ?_
  refine RC.condF rfl (rfl) ?_
  refine RC.skip ?_
  refine RE.sqN ?_
  refine RC.seq ?_
  refine RC.region rfl ?_
  refine RL.q (Qt.mv rfl) ?_
  refine RL.q ((by exact Qt.cvtI rfl (by dsimp only [inK]; omega))) ?_
  refine RL.q ((by exact Qt.remI rfl rfl (by omega))) ?_
  refine RL.q ((by exact Qt.addI rfl rfl (by dsimp only [inK]; omega))) ?_
  refine RL.q (Qt.as rfl) ?_
  refine RL.nil ?_
  refine RE.sqN ?_
  refine RC.seq ?_
  refine RC.region rfl ?_
  refine RL.q (Qt.mv rfl) ?_
  refine RL.q (Qt.fld rfl) ?_
  refine RL.q (Qt.ld rfl (by exact hS.at 4 rfl) (by first  | rfl)) ?_
  refine RL.q (Qt.fld rfl) ?_
  refine RL.q (Qt.ld rfl (by exact hS.at 4 rfl) (by first  | rfl)) ?_
  refine RL.e (Ef.call hS (prBest _ _ _ _ _ L x.proc x.draw hdx) rfl rfl Try.call18 [1] [0, 2, 3, 4, 5] (by decide) rfl rfl) ?_
  rintro v42 w ⟨ps, ⟨rfl, rfl⟩, hS⟩
  refine RL.q (Qt.mv rfl) ?_
  refine RL.q (Qt.ext rfl rfl) ?_
  refine RL.q (Qt.ext rfl rfl) ?_
  refine RL.q (Qt.ext rfl rfl) ?_
  refine RL.q (Qt.ext rfl rfl) ?_
  refine RL.e (Ef.alloc hS) ?_
  rintro _ w ⟨b12, rfl, hS⟩
  try simp (disch := omega) only [cells_agg'] at hS
  refine RL.q (Qt.as rfl) ?_
  refine RL.e0 (Ef.st hS 0 rfl rfl rfl (by rfl) (by rfl) (by exact Nat.le_of_ble_eq_true rfl)) ?_
  intro _ w hS
  simp (disch := omega) only [List.set_cons_zero, cells_agg'] at hS
  refine RL.q (Qt.as rfl) ?_
  refine RL.q (Qt.as rfl) ?_
  refine RL.nil ?_
  refine RE.sqN ?_
  refine RC.seq ?_
  refine RC.seq ?_
  refine RC.region rfl ?_
  refine RL.q (Qt.fld rfl) ?_
  refine RL.q (Qt.ld rfl (by exact hS.at 5 rfl) (by first  | rfl)) ?_
  refine RL.q (Qt.lss rfl rfl) ?_
  refine RL.q (Qt.mv rfl) ?_
  refine RLG.start 50 false rfl ?_
  refine RLG.q rfl rfl rfl (fun _ => Qt.fld rfl) ?_
  refine RLG.q rfl rfl rfl (fun hg => by (try simp only [decide_eq_false_iff_not] at hg); exact Qt.ld rfl (by exact hS.at 5 rfl) (by first  | rfl)) ?_
  refine RLG.q rfl rfl rfl (fun _ => Qt.mv rfl) ?_
  refine RLG.q rfl rfl rfl (fun hg => by (try simp only [decide_eq_false_iff_not] at hg); exact Qt.geq rfl rfl) ?_
  refine RLG.or rfl rfl ?_
  refine RL.nil ?_
  refine RE.sqN ?_
  rw [hnp]
  refine RC.cond rfl (fun h => ?_) (fun h => ?_)
  · refine RC.seq ?_
    refine RC.region rfl ?_
    refine RL.q (Qt.mv rfl) ?_
    refine RL.q (Qt.not rfl) ?_
    refine RL.q (Qt.as rfl) ?_
    refine RL.nil ?_
    refine RE.sqN ?_
    refine RC.ret ?_
    refine RE.sqR ?_
    have h : x.proc < 0 ∨ x.proc ≥ prNp n := by simpa using h
    have e : prB L (prNp n) x.proc x.draw = -1 := if_pos h
    rw [e]
    exact RE.retB rfl ⟨rfl, rfl⟩ (hS.pick [4, 6] (by decide) rfl)
  · skip
    have h : ¬ (x.proc < 0 ∨ x.proc ≥ prNp n) := by simpa using h
    have hpr : 0 ≤ x.proc ∧ x.proc < prNp n := by omega
    have hso := prB_some hok hnp4.1 hpr x.draw
    have hmax := fun q hq hne => prB_max (L := L) hnp4.1 hpr x.draw (q := q) hq hne
    have hown := prB_own (L := L) hnp4.1 hpr x.draw
    have hrg := prB_range (L := L) hnp4.1 x.proc x.draw
    generalize prB L (prNp n) x.proc x.draw = bb at *
    refine RC.skip ?_
    refine RE.sqN ?_
    refine RC.seq ?_
    refine RC.seq ?_
    refine RC.region rfl ?_
    refine RL.q (Qt.mv rfl) ?_
    refine RL.q (Qt.mv rfl) ?_
    refine RL.e (Ef.call hS (rpLen _ _ _ _ L) rfl rfl Try.call26 [3] [0, 1, 2, 4, 5, 6] (by decide) rfl rfl) ?_
    rintro v60 w ⟨ps, ⟨rfl, rfl⟩, hS⟩
    refine RL.q (Qt.gtr rfl rfl) ?_
    refine RL.q (Qt.neqB rfl rfl) ?_
    refine RL.nil ?_
    refine RE.sqN ?_
    rw [hso]
    refine RC.condF rfl (by simp) ?_
    refine RC.skip ?_
    refine RE.sqN ?_
    refine RC.seq ?_
    refine RC.seq ?_
    refine RC.region rfl ?_
    refine RL.q (Qt.as rfl) ?_
    refine RL.nil ?_
    refine RE.sqN ?_
    refine RC.block ?_
    refine RC.loop (γ := Nat) (fun i E w' => E = [(15, .int .i64 i), (10, .int .i64 (prNp n)), (14, .bool (decide (prLen L > 0))), (13, .int .i64 (prBAt bb)), (12, .pointer (some ⟨b12, 0, none⟩)), (7, .pointer (some ⟨b, 0, none⟩)), (8, r), (5, .pointer (some ⟨b5, 0, none⟩))] ∧ i ≤ prNp n + 1 ∧
      Sat oo w' [rpO r (prNp n) 10 (prQu n) L, pO (.pointer (some ⟨b, 0, none⟩)) (prNp n) 10 (prQu n) 80 L, pt b12 (.cells (wr #[.bool false, .int .u64 0, .int .u8 0] 0 (prBK L bb).cells) 31 (0, 0)), pin F0, pt b5 (.cells x.cells.toArray 41 (0, 0)), R]) (fun i => prNp n + 1 - i) 0 _ (by (repeat (first | exact Sub.nil | refine Sub.cons rfl ?_))) ⟨rfl, by omega, hS.pick [0, 2, 1, 4, 5, 6] (by decide) rfl⟩ ?_
    clear hS
    rintro i E w ⟨rfl, hi, hS⟩
    refine RC.seq ?_
    refine RC.seq ?_
    refine RC.region rfl ?_
    refine RL.q (Qt.mv rfl) ?_
    refine RL.q (Qt.mv rfl) ?_
    refine RL.q (Qt.leq rfl rfl) ?_
    refine RL.q (Qt.mv rfl) ?_
    refine RLG.start 66 true rfl ?_
    refine RLG.q rfl rfl rfl (fun _ => Qt.mv rfl) ?_
    refine RLG.and rfl rfl ?_
    refine RL.nil ?_
    refine RE.sqN ?_
    refine RC.cond rfl (fun h2 => ?_) (fun h2 => ?_)
    · skip
      have h2 : i ≤ prNp n ∧ prLen L > 0 := by simpa using h2
      have hpl : prList L (prNp n) i = kIds (L.getD i []) := by rw [prList, if_neg (by omega), Int.toNat_natCast]
      have hll := prList_len hok i
      refine RC.skip ?_
      refine RE.sqN ?_
      refine RC.seq ?_
      refine RC.block ?_
      refine RC.seq ?_
      refine RC.region rfl ?_
      refine RL.q (Qt.mv rfl) ?_
      refine RL.q (Qt.mv rfl) ?_
      refine RL.e (Ef.call hS (prListC _ _ _ _ _ L i) rfl rfl Try.call27 [1] [0, 2, 3, 4, 5] (by decide) rfl rfl) ?_
      rintro v73 w ⟨ps, rfl, hS⟩
      rw [hpl] at hS hll
      obtain ⟨so, co, rfl⟩ := hS.ownForm 0 rfl
      refine RL.q (Qt.as rfl) ?_
      refine RL.nil ?_
      refine RE.sqN ?_
      refine RC.seq ?_
      refine RC.seq ?_
      refine RC.region rfl ?_
      refine RL.q (Qt.mv rfl) ?_
      refine RL.q (Qt.lenS rfl) ?_
      refine RL.q (Qt.eql rfl rfl) ?_
      refine RL.nil ?_
      refine RE.sqN ?_
      refine RC.cond rfl (fun h3 => ?_) (fun h3 => ?_)
      · refine RC.exit ?_
        refine RE.sqX ?_
        refine RE.bkX ?_
        refine RE.sqN ?_
        refine RC.region rfl ?_
        refine RL.q (Qt.mv rfl) ?_
        refine RL.q ((by exact Qt.addI rfl rfl (by dsimp only [inK]; omega))) ?_
        refine RL.q (Qt.as rfl) ?_
        refine RL.nil ?_
        apply RE.lpN (i + 1)
        case hI => exact ⟨rfl, by omega, hS.pick [2, 1, 3, 4, 5, 6] (by decide) rfl⟩
        case hs => (repeat (first | exact Sub.nil | refine Sub.cons rfl ?_))
        case hm =>
          show prNp n + 1 - (i + 1) < prNp n + 1 - i
          omega
      · skip
        cases hl : L.getD i [] with
        | nil => rw [hl] at h3; exact absurd h3 (by decide)
        | cons y t =>
          have hyi : y ∈ L.getD i [] := by rw [hl]; simp
          have hne : L.getD (i : Int).toNat [] ≠ [] := by rw [Int.toNat_natCast, hl]; simp
          have hmx := hmax i (by omega) hne
          have htop : kTopK (L.getD (i : Int).toNat []) = y.k := by rw [Int.toNat_natCast, hl]; rfl
          rw [htop] at hmx
          have hbk : prBK L bb = kTopK (L.getD bb.toNat []) := if_neg (by omega)
          rw [← hbk] at hmx hown
          have hba : prBAt bb = bb := if_neg (by omega)
          have hpos : 0 < (kIds (y :: t)).length := by simp [kIds]
          have e0 : ∀ h, (kIds (L.getD i []))[0]'h = y.id := by rw [hl]; intro h; rfl
          obtain ⟨bo, capo, cc, hvo, hd1, hd2, hd3, hd4, hS⟩ := hS.ownPos 0 rfl (by rw [hl]; simp [kIds])
          cases hvo
          have hic := int_cell hd4 (by simp) (i := 0) (by rw [hl]; simp [kIds])
          rw [e0] at hic
          refine RC.skip ?_
          refine RE.sqN ?_
          refine RC.seq ?_
          refine RC.region rfl ?_
          refine RL.q (Qt.mv rfl) ?_
          refine RL.e (Ef.call hS (rpFork _ _ _ _ L) rfl rfl Try.call28 [2] [0, 1, 3, 4, 5, 6] (by decide) rfl rfl) ?_
          rintro v78 w ⟨ps, ⟨⟨bf, rfl⟩, rfl⟩, hS⟩
          refine RL.q (Qt.as rfl) ?_
          refine RL.nil ?_
          refine RE.sqN ?_
          refine RC.seq ?_
          refine RC.region rfl ?_
          refine RL.q (Qt.mv rfl) ?_
          refine RL.q (Qt.mv rfl) ?_
          refine RL.q (Qt.mv rfl) ?_
          refine RL.q (Qt.ixS rfl rfl (by omega) (by omega)) ?_
          refine RL.q (Qt.ld rfl (by exact hS.at 2 rfl) (by exact hic)) ?_
          refine RL.e (Ef.call hS (prTopKey _ (prNp n) 10 (prQu n) L i y i hyi (by omega)) rfl rfl Try.call29 [0] [1, 2, 3, 4, 5, 6, 7] (by decide) rfl rfl) ?_
          rintro v84 w ⟨ps, ⟨rfl, rfl⟩, hS⟩
          try rw [List.nil_append] at hS
          refine RL.e (Ef.alloc hS) ?_
          rintro _ w ⟨b18, rfl, hS⟩
          try simp (disch := omega) only [cells_agg'] at hS
          refine RL.e0 (Ef.st hS 0 rfl rfl rfl (by rfl) (by rfl) (by exact Nat.le_of_ble_eq_true rfl)) ?_
          intro _ w hS
          simp (disch := omega) only [List.set_cons_zero, cells_agg'] at hS
          refine RL.nil ?_
          refine RE.sqN ?_
          refine RC.seq ?_
          refine RC.region rfl ?_
          refine RL.q (Qt.ldA rfl (by exact hS.at 0 rfl) (by exact hkw _) (by exact Nat.le_of_ble_eq_true rfl)) ?_
          refine RL.q (Qt.ldA rfl (by exact hS.at 4 rfl) (by exact hkw _) (by exact Nat.le_of_ble_eq_true rfl)) ?_
          refine RL.e (Ef.call hS (rkAbove _ _) rfl rfl Try.call30 [] [0, 1, 2, 3, 4, 5, 6, 7] (by decide) rfl rfl) ?_
          rintro v87 w ⟨ps, ⟨rfl, rfl⟩, hS⟩
          try rw [List.nil_append] at hS
          rw [hmx.2]
          by_cases hip : (i : Int) = x.proc
          · have hpi : decide ((i : Int) = x.proc) = true := decide_eq_true hip
            by_cases hk : y.k = prBK L bb
            · have hkd : decide (y.k = prBK L bb) = true := by simp [hk]
              rw [← hip, Int.toNat_natCast] at hown
              have hbo := hown (by rw [hl]; simp) (by rw [hl]; exact hk)
              have hbi : prBAt bb = (i : Int) := by rw [hba, hbo]
              rw [hbi]
              refine RL.q (Qt.mv rfl) ?_
              refine RL.q (Qt.mv rfl) ?_ (Runs.guard rfl rfl rfl (rfl))
              refine RL.q (Qt.fld rfl) ?_ (Runs.guard rfl rfl rfl (rfl))
              refine RL.q (Qt.ld rfl (by exact hS.at 6 rfl) (by rfl)) ?_ (Runs.guard rfl rfl rfl (rfl))
              refine RL.q (Qt.eql rfl rfl) ?_ (Runs.guard rfl rfl rfl (rfl))
              refine RL.q (Qt.mv rfl) ?_ (Runs.guard rfl rfl rfl (rfl))
              refine RL.q (Qt.ldA rfl (by exact hS.at 0 rfl) (by exact hkw _) (by exact Nat.le_of_ble_eq_true rfl)) ?_ (Runs.guard rfl rfl rfl (hpi))
              refine RL.q (Qt.ldA rfl (by exact hS.at 4 rfl) (by exact hkw _) (by exact Nat.le_of_ble_eq_true rfl)) ?_ (Runs.guard rfl rfl rfl (hpi))
              refine RL.q (Qt.eqlT rfl rfl (keyEq y.k (prBK L bb))) ?_ (Runs.guard rfl rfl rfl (hpi))
              refine RL.q ((by exact Qt.pickT rfl (by assumption) rfl)) ?_ (Runs.guard rfl rfl rfl (rfl))
              refine RL.q (Qt.mv rfl) ?_ (Runs.guard rfl rfl rfl (rfl))
              refine RL.q (Qt.mv rfl) ?_ (Runs.guard rfl rfl rfl (hkd))
              refine RL.q (Qt.fld rfl) ?_ (Runs.guard rfl rfl rfl (hkd))
              refine RL.q (Qt.ld rfl (by exact hS.at 6 rfl) (by rfl)) ?_ (Runs.guard rfl rfl rfl (hkd))
              refine RL.q (Qt.neq rfl rfl) ?_ (Runs.guard rfl rfl rfl (hkd))
              refine RL.q ((by exact Qt.pickT rfl (by assumption) rfl)) ?_ (Runs.guard rfl rfl rfl (rfl))
              refine RL.q ((by exact Qt.pickF rfl rfl rfl)) ?_
              refine RL.nil ?_
              refine RE.sqN ?_
              refine RC.condF rfl (by simp [hip]) ?_
              refine RC.skip ?_
              refine RE.bkN ?_
              refine RE.sqN ?_
              refine RC.region rfl ?_
              refine RL.q (Qt.mv rfl) ?_
              refine RL.q ((by exact Qt.addI rfl rfl (by dsimp only [inK]; omega))) ?_
              refine RL.q (Qt.as rfl) ?_
              refine RL.nil ?_
              apply RE.lpN (i + 1)
              case hI => exact ⟨rfl, by omega, hS.pick [1, 3, 4, 5, 6, 7] (by decide) rfl⟩
              case hs => (repeat (first | exact Sub.nil | refine Sub.cons rfl ?_))
              case hm =>
                show prNp n + 1 - (i + 1) < prNp n + 1 - i
                omega
            · skip
              refine RL.q (Qt.mv rfl) ?_
              refine RL.q (Qt.mv rfl) ?_ (Runs.guard rfl rfl rfl (rfl))
              refine RL.q (Qt.fld rfl) ?_ (Runs.guard rfl rfl rfl (rfl))
              refine RL.q (Qt.ld rfl (by exact hS.at 6 rfl) (by rfl)) ?_ (Runs.guard rfl rfl rfl (rfl))
              refine RL.q (Qt.eql rfl rfl) ?_ (Runs.guard rfl rfl rfl (rfl))
              refine RL.q (Qt.mv rfl) ?_ (Runs.guard rfl rfl rfl (rfl))
              refine RL.q (Qt.ldA rfl (by exact hS.at 0 rfl) (by exact hkw _) (by exact Nat.le_of_ble_eq_true rfl)) ?_ (Runs.guard rfl rfl rfl (hpi))
              refine RL.q (Qt.ldA rfl (by exact hS.at 4 rfl) (by exact hkw _) (by exact Nat.le_of_ble_eq_true rfl)) ?_ (Runs.guard rfl rfl rfl (hpi))
              refine RL.q (Qt.eqlT rfl rfl (keyEq y.k (prBK L bb))) ?_ (Runs.guard rfl rfl rfl (hpi))
              refine RL.q ((by exact Qt.pickT rfl (by assumption) rfl)) ?_ (Runs.guard rfl rfl rfl (rfl))
              refine RL.q (Qt.mv rfl) ?_ (Runs.guard rfl rfl rfl (rfl))
              refine RL.s (Skips.guard rfl rfl rfl (by simp [hk])) ?_
              refine RL.s (Skips.guard rfl rfl rfl (by simp [hk])) ?_
              refine RL.s (Skips.guard rfl rfl rfl (by simp [hk])) ?_
              refine RL.s (Skips.guard rfl rfl rfl (by simp [hk])) ?_
              refine RL.q ((by exact Qt.pickF rfl (by simp [hk]) rfl)) ?_ (Runs.guard rfl rfl rfl (rfl))
              refine RL.q ((by exact Qt.pickF rfl rfl rfl)) ?_
              refine RL.nil ?_
              refine RE.sqN ?_
              refine RC.condF rfl (by simp) ?_
              refine RC.skip ?_
              refine RE.bkN ?_
              refine RE.sqN ?_
              refine RC.region rfl ?_
              refine RL.q (Qt.mv rfl) ?_
              refine RL.q ((by exact Qt.addI rfl rfl (by dsimp only [inK]; omega))) ?_
              refine RL.q (Qt.as rfl) ?_
              refine RL.nil ?_
              apply RE.lpN (i + 1)
              case hI => exact ⟨rfl, by omega, hS.pick [1, 3, 4, 5, 6, 7] (by decide) rfl⟩
              case hs => (repeat (first | exact Sub.nil | refine Sub.cons rfl ?_))
              case hm =>
                show prNp n + 1 - (i + 1) < prNp n + 1 - i
                omega
          · have hpi : decide ((i : Int) = x.proc) = false := decide_eq_false hip
            refine RL.q (Qt.mv rfl) ?_
            refine RL.q (Qt.mv rfl) ?_ (Runs.guard rfl rfl rfl (rfl))
            refine RL.q (Qt.fld rfl) ?_ (Runs.guard rfl rfl rfl (rfl))
            refine RL.q (Qt.ld rfl (by exact hS.at 6 rfl) (by rfl)) ?_ (Runs.guard rfl rfl rfl (rfl))
            refine RL.q (Qt.eql rfl rfl) ?_ (Runs.guard rfl rfl rfl (rfl))
            refine RL.q (Qt.mv rfl) ?_ (Runs.guard rfl rfl rfl (rfl))
            refine RL.s (Skips.guard rfl rfl rfl (hpi)) ?_
            refine RL.s (Skips.guard rfl rfl rfl (hpi)) ?_
            refine RL.s (Skips.guard rfl rfl rfl (hpi)) ?_
            refine RL.q ((by exact Qt.pickF rfl (by assumption) rfl)) ?_ (Runs.guard rfl rfl rfl (rfl))
            refine RL.q (Qt.mv rfl) ?_ (Runs.guard rfl rfl rfl (rfl))
            refine RL.s (Skips.guard rfl rfl rfl (rfl)) ?_
            refine RL.s (Skips.guard rfl rfl rfl (rfl)) ?_
            refine RL.s (Skips.guard rfl rfl rfl (rfl)) ?_
            refine RL.s (Skips.guard rfl rfl rfl (rfl)) ?_
            refine RL.q ((by exact Qt.pickF rfl rfl rfl)) ?_ (Runs.guard rfl rfl rfl (rfl))
            refine RL.q ((by exact Qt.pickF rfl rfl rfl)) ?_
            refine RL.nil ?_
            refine RE.sqN ?_
            refine RC.condF rfl (by simp) ?_
            refine RC.skip ?_
            refine RE.bkN ?_
            refine RE.sqN ?_
            refine RC.region rfl ?_
            refine RL.q (Qt.mv rfl) ?_
            refine RL.q ((by exact Qt.addI rfl rfl (by dsimp only [inK]; omega))) ?_
            refine RL.q (Qt.as rfl) ?_
            refine RL.nil ?_
            apply RE.lpN (i + 1)
            case hI => exact ⟨rfl, by omega, hS.pick [1, 3, 4, 5, 6, 7] (by decide) rfl⟩
            case hs => (repeat (first | exact Sub.nil | refine Sub.cons rfl ?_))
            case hm =>
              show prNp n + 1 - (i + 1) < prNp n + 1 - i
              omega
    · refine RC.exit ?_
      refine RE.sqX ?_
      refine RE.lpX ?_
      refine RE.bkX ?_
      refine RE.sqN ?_
      refine RC.seq ?_
      refine RC.region rfl ?_
      refine RL.q (Qt.as rfl) ?_
      refine RL.nil ?_
      refine RE.sqN ?_
      refine RC.ret ?_
      exact RE.retB rfl ⟨rfl, rfl⟩ (hS.pick [3, 5] (by decide) rfl)
end Go.Proofs

/- The law TopSteals answers true. -/
namespace Go.Proofs
open Go Go.Gx
variable {oo : World}

/-- Numbers of one kind among the arguments. -/
abbrev NumsAt (k : IntKind) (v : Value) (l : List Int) (F0 : Frag) : Prop := RowsAt (fun i => [Value.int k i]) 1 v l F0
theorem row1 {c : Array Value} {off i : Nat} {v : Value} (h : c.extract (off + i * 1) (off + i * 1 + 1) = [v].toArray) : c.toList[off + ((i : Int)).toNat * 1]? = some v := by
  have h1 : (c.extract (off + i * 1) (off + i * 1 + 1))[0]? = some v := by rw [h]; rfl
  rw [Array.getElem?_extract] at h1
  split at h1
  · rw [Int.toNat_natCast, Array.getElem?_toList]
    simpa using h1
  · cases h1

theorem prB_any {np nt : Nat} {L : List (List KItem)} (hp : PrOk np nt L) (h1 : 1 ≤ np) {p q : Int} (hpr : 0 ≤ p ∧ p < np) (hqr : 0 ≤ q ∧ q < np) (d e : Int) : prBK L (prB L np p d) = prBK L (prB L np q e) := by
  have key : ∀ {p q : Int} (_ : 0 ≤ p ∧ p < np) (_ : 0 ≤ q ∧ q < np) (d e : Int), 0 ≤ prB L np p d → 0 ≤ prB L np q e ∧ kAbove (kTopK (L.getD (prB L np p d).toNat [])) (kTopK (L.getD (prB L np q e).toNat [])) = false := fun {p q} _ hq d e h => by
    obtain ⟨g0, g1, g2⟩ := (prB_range (L := L) h1 p d).resolve_left (by omega)
    exact prB_max h1 hq e ⟨g0, g1⟩ g2
  by_cases h : 0 ≤ prB L np p d
  · obtain ⟨a1, a2⟩ := key hpr hqr d e h
    obtain ⟨_, b2⟩ := key hqr hpr e d a1
    obtain ⟨_, _, g2⟩ := (prB_range (L := L) h1 p d).resolve_left (by omega)
    obtain ⟨_, _, g2'⟩ := (prB_range (L := L) h1 q e).resolve_left (by omega)
    rw [prBK, prBK, if_neg (by omega), if_neg (by omega)]
    exact kEq_of_not (hp.topRight g2).1 (hp.topRight g2').1 a2 b2
  · have h' : ¬ 0 ≤ prB L np q e := fun g => h (key hqr hpr e d g).1
    rw [prBK, prBK, if_pos (by omega), if_pos (by omega)]
/-- None is more urgent than this. -/
def PrLe (L : List (List KItem)) (last : KKey) : Prop := ∀ k, ∀ y ∈ L.getD k [], kAbove y.k last = false
theorem PrLe.dead {np nt : Nat} {L : List (List KItem)} (hp : PrOk np nt L) : PrLe L (kDead 0) := fun k y hy => by
  obtain ⟨hk, hy⟩ := getD_some hy
  have h0 : 0 ≤ y.k.dl := ((hp.at hk).ok y hy).1.1
  unfold kAbove kDead
  cases y.k.edf with
  | false => rfl
  | true => simp; omega
theorem prB_head {np nt : Nat} {L : List (List KItem)} (hp : PrOk np nt L) {bb : Int} (h0 : 0 ≤ bb) (h2 : L.getD bb.toNat [] ≠ []) : ∃ y, y ∈ L.getD bb.toNat [] ∧ y.k = prBK L bb := by
  cases e : L.getD bb.toNat [] with
  | nil => exact absurd e h2
  | cons y t => exact ⟨y, by simp, by rw [prBK, if_neg (by omega), e]; rfl⟩
theorem PrLe.take {np nt : Nat} {L : List (List KItem)} (hp : PrOk np nt L) (h1 : 1 ≤ np) {p d : Int} (hpr : 0 ≤ p ∧ p < np) (h0 : 0 ≤ prB L np p d) (h2 : L.getD (prB L np p d).toNat [] ≠ []) : PrLe (prTake L (prB L np p d)) (prBK L (prB L np p d)) := fun k y hy => by
  obtain ⟨_, e2, _⟩ := prTake_rem hp h0 h2
  rw [← e2] at hy
  have hy := ((prRem_mem hp _).1 hy).1
  obtain ⟨hk, hyk⟩ := getD_some hy
  have hne : L.getD ((k : Nat) : Int).toNat [] ≠ [] := by rw [Int.toNat_natCast]; exact List.ne_nil_of_mem hy
  have hlen := hp.len
  have hmx := (prB_max h1 hpr d (q := k) (by omega) hne).2
  rw [Int.toNat_natCast] at hmx
  have hb : prBK L (prB L np p d) = kTopK (L.getD (prB L np p d).toNat []) := if_neg (by omega)
  rw [hb]
  refine kNot_trans hmx ?_
  rw [getD_at hk]
  have hs := (hp.at hk).sorted
  cases e : L[k] with
  | nil => rw [e] at hyk; cases hyk
  | cons z t =>
    rw [e] at hyk hs
    show kAbove y.k z.k = false
    rcases List.mem_cons.1 hyk with rfl | hm
    · exact kAbove_irrefl _
    · exact (List.pairwise_cons.1 hs).1 y hm
theorem prPut_grow {np nt : Nat} {L : List (List KItem)} (hp : PrOk np nt L) {queue : Int} {proc id : Int} {k : KKey} (he : prPutErr L np nt proc id k = 0) : prLen (prPut L np nt queue proc id k) = prLen L + 1 ∧ ∀ a, pwOk (prPut L np nt queue proc id k) a = true → pwOk L a = true ∨ a = id := by
  obtain ⟨h1, _, _, _⟩ := prPutErr_is0 (queue := queue) he
  have hlen := hp.len
  have hto : prTo L np queue proc < L.length := by unfold prTo; split <;> omega
  have e : prPut L np nt queue proc id k = L.set (prTo L np queue proc) (kput ⟨id, k⟩ L[prTo L np queue proc]) := by rw [prPut, if_pos he, prUpd_at hto]
  rw [e]
  refine ⟨by rw [prLen_set hto, kput_len]; omega, fun a ha => ?_⟩
  obtain ⟨l, hl, hm⟩ := pwOk_iff.1 ha
  rcases List.mem_or_eq_of_mem_set hl with hl | rfl
  · exact .inl (pwOk_iff.2 ⟨l, hl, hm⟩)
  · obtain ⟨y, hy, rfl⟩ := List.mem_map.1 hm
    rcases List.mem_cons.1 ((kput_perm _ _).mem_iff.1 hy) with rfl | hy
    · exact .inr rfl
    · exact .inl (pwOk_iff.2 ⟨_, List.getElem_mem hto, List.mem_map.2 ⟨y, hy, rfl⟩⟩)

/-- i ids stand there, 0 to i - 1. -/
structure TgIn (L : List (List KItem)) (i : Nat) : Prop where
  ok : PrOk 4 64 L
  len : prLen L = i
  ids : ∀ a, pwOk L a = true → a < i
theorem TgIn.empty : TgIn (List.replicate 5 []) 0 := ⟨PrOk.empty, by decide, fun a ha => by
  obtain ⟨l, hl, hm⟩ := pwOk_iff.1 ha
  rw [List.eq_of_mem_replicate hl] at hm; cases hm⟩
theorem TgIn.err {L : List (List KItem)} {i : Nat} (h : TgIn L i) (hi : i < 64) {p : Int} (hp : 0 ≤ p ∧ p < 4) (v : Int) : prPutErr L 4 64 p i (kFixed v) = 0 := by
  have hno : pwOk L i = false := by
    cases e : pwOk L i with
    | false => rfl
    | true => have := h.ids i e; omega
  have h1 : prIs 4 p = true := by simp [prIs]; omega
  have h2 : kRight (kFixed v) = true := rfl
  unfold prPutErr
  rw [h1, h2]
  exact prErr_ok0 (by simp; omega) hno
theorem TgIn.put {L : List (List KItem)} {i : Nat} (h : TgIn L i) (hi : i < 64) {p : Int} (hp : 0 ≤ p ∧ p < 4) {v : Int} (hv : (kFixed v).ok) : TgIn (prPut L 4 64 3 p i (kFixed v)) (i + 1) := by
  obtain ⟨g1, g2⟩ := prPut_grow h.ok (queue := 3) (h.err hi hp v)
  refine ⟨h.ok.put 3 hv, ?_, fun a ha => ?_⟩
  · rw [g1, h.len]; rfl
  · rcases g2 a ha with g | rfl
    · have := h.ids a g; omega
    · omega

/-- j of i are taken; none that is left is more urgent than the last one. -/
structure TgOut (L : List (List KItem)) (i j : Nat) (last : KKey) : Prop where
  ok : PrOk 4 64 L
  le : j ≤ i
  len : prLen L = (i : Int) - j
  not : PrLe L last
theorem TgOut.start {L : List (List KItem)} {i : Nat} (h : TgIn L i) : TgOut L i 0 (kDead 0) := ⟨h.ok, Nat.zero_le _, by rw [h.len]; simp, PrLe.dead h.ok⟩
theorem TgOut.some {L : List (List KItem)} {i j : Nat} {last : KKey} (h : TgOut L i j last) (hj : j < i) (p d : Int) (hp : 0 ≤ p ∧ p < 4) : prBOk (prB L 4 p d) = true := by
  rw [prB_some h.ok (by decide) hp]
  have := h.len
  exact decide_eq_true (by omega)
theorem TgOut.notAbove {L : List (List KItem)} {i j : Nat} {last : KKey} (h : TgOut L i j last) (hj : j < i) {p : Int} (hp : 0 ≤ p ∧ p < 4) (d : Int) : kAbove (prBK L (prB L 4 p d)) last = false := by
  have h0 : 0 ≤ prB L 4 p d := of_decide_eq_true (h.some hj p d hp)
  obtain ⟨_, _, g2⟩ := (prB_range (L := L) (np := 4) (by decide) p d).resolve_left (by omega)
  obtain ⟨y, hy, e⟩ := prB_head h.ok h0 g2
  rw [← e]
  exact h.not _ y hy
theorem TgOut.take {L : List (List KItem)} {i j : Nat} {last : KKey} (h : TgOut L i j last) (hj : j < i) {p : Int} (hp : 0 ≤ p ∧ p < 4) (d : Int) : TgOut (prTake L (prB L 4 p d)) i (j + 1) (prBK L (prB L 4 p d)) := by
  have h0 : 0 ≤ prB L 4 p d := of_decide_eq_true (h.some hj p d hp)
  obtain ⟨_, _, g2⟩ := (prB_range (L := L) (np := 4) (by decide) p d).resolve_left (by omega)
  obtain ⟨_, _, _, e4, _⟩ := prTake_rem h.ok h0 g2
  refine ⟨h.ok.take _, hj, ?_, PrLe.take h.ok (by decide) hp h0 g2⟩
  rw [e4, h.len]; omega
theorem TgOut.done {L : List (List KItem)} {i j : Nat} {last : KKey} (h : TgOut L i j last) (hj : i ≤ j) : prLen L = 0 := by
  have := h.len
  have := h.le
  omega

set_option maxHeartbeats 4000000 in
theorem tgLawSteals (v u : Value) (ls ws : List Int) (F0 : Frag) (hR : NumsAt .u16 v ls F0) (hR2 : NumsAt .u8 u ws F0) (hl : ∀ x ∈ ls, 0 ≤ x ∧ x ≤ 65535) (hw : ∀ x ∈ ws, 0 ≤ x ∧ x ≤ 255) : Ct Try.prog 3 #[v, u] [pin F0] (fun v' ps => v' = .bool true ∧ ps = [pin F0]) := by
  obtain ⟨pa, cap, rfl, hR⟩ := hR
  obtain ⟨pb, cap2, rfl, hR2⟩ := hR2
  refine Ct.enter Try.func3 rfl (Nat.le_of_ble_eq_true rfl) ?_
  intro oo w R hS
  change RC _ _ _ _ _ _ [(0, _), (1, _)] _
  refine RC.seq ?_
  refine RC.region rfl ?_
  refine RL.q (Qt.as rfl) ?_
  refine RL.nil ?_
  refine RE.sqN ?_
  refine RC.seq ?_
  refine RC.region rfl ?_
  refine RL.e (Ef.call hS (prNew 4 64 3 (by decide) (by decide) (by decide) (by decide) (by decide) (by decide)) rfl rfl Try.call14 [] [0, 1] (by decide) rfl rfl) ?_
  rintro v19 w ⟨ps, ⟨⟨bq, rfl⟩, rfl⟩, hS⟩
  refine RL.q (Qt.as rfl) ?_
  refine RL.nil ?_
  refine RE.sqN ?_
  refine RC.seq ?_
  refine RC.region rfl ?_
  refine RL.q (Qt.as rfl) ?_
  refine RL.nil ?_
  refine RE.sqN ?_
  refine RC.seq ?_
  refine RC.seq ?_
  refine RC.region rfl ?_
  refine RL.q (Qt.as rfl) ?_
  refine RL.nil ?_
  refine RE.sqN ?_
  refine RC.block ?_
  refine RC.loop (γ := Nat × List (List KItem)) (fun g E w' => E = [(7, .int .i64 g.1), (6, .int .i64 g.1), (5, .pointer (some ⟨bq, 0, none⟩)), (0, .slice pa ls.length cap), (1, .slice pb ws.length cap2)] ∧ (g.1 ≤ ls.length ∧ g.1 ≤ 64 ∧ TgIn g.2 g.1) ∧ Sat oo w' [pO (.pointer (some ⟨bq, 0, none⟩)) 4 64 3 g.1 g.2, pin F0, R]) (fun g => ls.length - g.1) (0, List.replicate 5 []) _ (by (repeat (first | exact Sub.nil | refine Sub.cons rfl ?_))) ⟨rfl, ⟨by simp, by simp, TgIn.empty⟩, hS⟩ ?_
  clear hS
  rintro ⟨i, L⟩ E w ⟨rfl, ⟨hi, hi2, hin⟩, hS⟩
  dsimp only at hi hi2 hin hS
  refine RC.seq ?_
  refine RC.seq ?_
  refine RC.region rfl ?_
  refine RL.q (Qt.mv rfl) ?_
  refine RL.q (Qt.mv rfl) ?_
  refine RL.q (Qt.lenS rfl) ?_
  refine RL.q (Qt.lss rfl rfl) ?_
  refine RL.q (Qt.mv rfl) ?_
  refine RLG.start 24 true rfl ?_
  refine RLG.q rfl rfl rfl (fun _ => Qt.mv rfl) ?_
  refine RLG.q rfl rfl rfl (fun hg => by (try simp only [decide_eq_true_eq] at hg); exact Qt.lss rfl rfl) ?_
  refine RLG.and rfl rfl ?_
  refine RL.nil ?_
  refine RE.sqN ?_
  refine RC.cond rfl (fun h => ?_) (fun h => ?_)
  · skip
    have h : i < ls.length ∧ i < 64 := by
      simp only [Bool.and_eq_true, decide_eq_true_eq] at h
      omega
    obtain ⟨b, off, c, T, fz, rfl, hmem, hle, hrow⟩ := hR (by omega)
    have hrow := row1 (hrow i h.1)
    have hli := hl _ (List.getElem_mem h.1)
    have hkf : (kFixed ((ls[i] / 4) % 256)).ok := ⟨⟨Int.le_refl 0, (by decide : (0 : Int) ≤ 18446744073709551615)⟩, by show 0 ≤ (ls[i] / 4) % 256 ∧ (ls[i] / 4) % 256 ≤ 255; omega⟩
    have he := hin.err h.2 (p := ls[i] % 4) (by omega) ((ls[i] / 4) % 256)
    have hin' := hin.put h.2 (p := ls[i] % 4) (by omega) hkf
    generalize hla : ls[i] = la at *
    refine RC.skip ?_
    refine RE.sqN ?_
    refine RC.seq ?_
    refine RC.block ?_
    refine RC.seq ?_
    refine RC.seq ?_
    refine RC.drawn 17 [0, 1, 2, 3, 4, 5, 6, 7, 8, 9, 10, 11, 12, 13, 14, 15, 16] (fun w' => w'.heap[b]? = some (.cells c T fz)) (by kernel_rfl) (by kernel_rfl) (hS.drew.pinned 1 rfl hmem) (fun hh => ?_)
    replace hS := hS.drew
    refine RH.q hh (Calm.sq (Calm.sq (Calm.bk (Calm.sq (Calm.lp (Calm.bk (Calm.sq Calm.body))))))) rfl (by kernel_rfl) (Qt.mv rfl) ?_
    refine RH.q hh (Calm.sq (Calm.sq (Calm.bk (Calm.sq (Calm.lp (Calm.bk (Calm.sq Calm.body))))))) rfl (by kernel_rfl) (Qt.mv rfl) ?_
    refine RH.q hh (Calm.sq (Calm.sq (Calm.bk (Calm.sq (Calm.lp (Calm.bk (Calm.sq Calm.body))))))) rfl (by kernel_rfl) (Qt.mv rfl) ?_
    refine RH.q hh (Calm.sq (Calm.sq (Calm.bk (Calm.sq (Calm.lp (Calm.bk (Calm.sq Calm.body))))))) rfl (by kernel_rfl) (Qt.ixS rfl rfl (by omega) (by omega)) ?_
    refine RH.q hh (Calm.sq (Calm.sq (Calm.bk (Calm.sq (Calm.lp (Calm.bk (Calm.sq Calm.body))))))) rfl (by kernel_rfl) (Qt.ld rfl (fun _ h => h) (by exact hrow)) ?_
    refine RH.q hh (Calm.sq (Calm.sq (Calm.bk (Calm.sq (Calm.lp (Calm.bk (Calm.sq Calm.body))))))) rfl (by kernel_rfl) ((by exact Qt.cvtI rfl (by dsimp only [inK]; omega))) ?_
    refine RH.q hh (Calm.sq (Calm.sq (Calm.bk (Calm.sq (Calm.lp (Calm.bk (Calm.sq Calm.body))))))) rfl (by kernel_rfl) ((by exact Qt.remI rfl rfl (by omega))) ?_
    refine RH.q hh (Calm.sq (Calm.sq (Calm.bk (Calm.sq (Calm.lp (Calm.bk (Calm.sq Calm.body))))))) rfl (by kernel_rfl) (Qt.mv rfl) ?_
    refine RH.q hh (Calm.sq (Calm.sq (Calm.bk (Calm.sq (Calm.lp (Calm.bk (Calm.sq Calm.body))))))) rfl (by kernel_rfl) (Qt.mv rfl) ?_
    refine RH.q hh (Calm.sq (Calm.sq (Calm.bk (Calm.sq (Calm.lp (Calm.bk (Calm.sq Calm.body))))))) rfl (by kernel_rfl) (Qt.mv rfl) ?_
    refine RH.q hh (Calm.sq (Calm.sq (Calm.bk (Calm.sq (Calm.lp (Calm.bk (Calm.sq Calm.body))))))) rfl (by kernel_rfl) (Qt.ixS rfl rfl (by omega) (by omega)) ?_
    refine RH.q hh (Calm.sq (Calm.sq (Calm.bk (Calm.sq (Calm.lp (Calm.bk (Calm.sq Calm.body))))))) rfl (by kernel_rfl) (Qt.ld rfl (fun _ h => h) (by exact hrow)) ?_
    refine RH.q hh (Calm.sq (Calm.sq (Calm.bk (Calm.sq (Calm.lp (Calm.bk (Calm.sq Calm.body))))))) rfl (by kernel_rfl) ((by exact Qt.quoI rfl rfl (by dsimp only [inK]; omega) (by omega))) ?_
    refine RH.q hh (Calm.sq (Calm.sq (Calm.bk (Calm.sq (Calm.lp (Calm.bk (Calm.sq Calm.body))))))) rfl (by kernel_rfl) ((by exact Qt.cvt rfl)) ?_
    refine RH.e hh rfl (by kernel_rfl) (Ef.call hS (kyFixed ((la / 4) % 256)) rfl rfl Try.call16 [] [0, 1, 2] (by decide) rfl rfl) ?_
    rintro v44 w ⟨ps, ⟨rfl, rfl⟩, hS⟩
    try rw [List.nil_append] at hS
    refine ⟨hS.pinned 1 rfl hmem, ?_⟩
    refine RH.e hh rfl (by kernel_rfl) (Ef.call hS (prPutC _ 4 64 3 i L (la % 4) i (kFixed ((la / 4) % 256)) hkf (by omega)) rfl rfl Try.call15 [0] [1, 2] (by decide) rfl rfl) ?_
    rintro v45 w ⟨ps, ⟨rfl, rfl⟩, hS⟩
    refine ⟨hS.pinned 1 rfl hmem, ?_⟩
    refine RH.q hh (Calm.sq (Calm.sq (Calm.bk (Calm.sq (Calm.lp (Calm.bk (Calm.sq Calm.body))))))) rfl (by kernel_rfl) (Qt.neq rfl rfl) ?_
    refine RH.done hh (by kernel_rfl) ?_
    refine RL.nil ?_
    refine RE.sqN ?_
    refine RC.condF rfl (by simp [he]) ?_
    refine RC.skip ?_
    refine RE.sqN ?_
    refine RC.region rfl ?_
    refine RL.q (Qt.mv rfl) ?_
    refine RL.q ((by exact Qt.addI rfl rfl (by dsimp only [inK]; omega))) ?_
    refine RL.q (Qt.as rfl) ?_
    refine RL.nil ?_
    refine RE.bkN ?_
    refine RE.sqN ?_
    refine RC.region rfl ?_
    refine RL.q (Qt.mv rfl) ?_
    refine RL.q ((by exact Qt.addI rfl rfl (by dsimp only [inK]; omega))) ?_
    refine RL.q (Qt.as rfl) ?_
    refine RL.nil ?_
    apply RE.lpN ((i + 1, prPut L 4 64 3 (la % 4) i (kFixed ((la / 4) % 256))))
    case hI => exact ⟨rfl, ⟨h.1, h.2, hin'⟩, hS⟩
    case hs => (repeat (first | exact Sub.nil | refine Sub.cons rfl ?_))
    case hm =>
      show ls.length - (i + 1) < ls.length - i
      omega
  · skip
    have hS := pO_mono (B' := 64) (by omega) hS
    have hout := TgOut.start hin
    clear hin
    have hk3 : ∀ k : KKey, k.cells.toArray.extract 0 (0 + 3) = k.cells.toArray := fun k => rfl
    have hkw : ∀ k : KKey, (wr #[.bool false, .int .u64 0, .int .u8 0] 0 k.cells).extract 0 (0 + 3) = k.cells.toArray := fun k => rfl
    refine RC.exit ?_
    refine RE.sqX ?_
    refine RE.lpX ?_
    refine RE.bkX ?_
    refine RE.sqN ?_
    refine RC.seq ?_
    refine RC.region rfl ?_
    refine RL.e (Ef.call hS (kyDead 0) rfl rfl Try.call17 [] [0, 1, 2] (by decide) rfl rfl) ?_
    rintro v49 w ⟨ps, ⟨rfl, rfl⟩, hS⟩
    try rw [List.nil_append] at hS
    refine RL.e (Ef.alloc hS) ?_
    rintro _ w ⟨b8, rfl, hS⟩
    try simp (disch := omega) only [cells_agg'] at hS
    refine RL.e0 (Ef.st hS 0 rfl rfl rfl (by rfl) (by rfl) (by exact Nat.le_of_ble_eq_true rfl)) ?_
    intro _ w hS
    simp (disch := omega) only [List.set_cons_zero, cells_agg'] at hS
    refine RL.nil ?_
    refine RE.sqN ?_
    refine RC.seq ?_
    refine RC.seq ?_
    refine RC.region rfl ?_
    refine RL.q (Qt.as rfl) ?_
    refine RL.nil ?_
    refine RE.sqN ?_
    refine RC.block ?_
    refine RC.loop (γ := Nat × List (List KItem) × KKey) (fun g E w' => E = [(9, .int .i64 g.1), (6, .int .i64 i), (5, .pointer (some ⟨bq, 0, none⟩)), (8, .pointer (some ⟨b8, 0, none⟩)), (1, .slice pb ws.length cap2)] ∧ TgOut g.2.1 i g.1 g.2.2 ∧ Sat oo w' [pO (.pointer (some ⟨bq, 0, none⟩)) 4 64 3 64 g.2.1, pt b8 (.cells g.2.2.cells.toArray 31 (0, 0)), pin F0, R]) (fun g => i - g.1) (0, L, kDead 0) _ (by (repeat (first | exact Sub.nil | refine Sub.cons rfl ?_))) ⟨rfl, hout, hS.pick [1, 0, 2, 3] (by decide) rfl⟩ ?_
    clear hS hout
    rintro ⟨j, L, last⟩ E w ⟨rfl, hin, hS⟩
    dsimp only at hin hS
    refine RC.seq ?_
    refine RC.seq ?_
    refine RC.region rfl ?_
    refine RL.q (Qt.mv rfl) ?_
    refine RL.q (Qt.mv rfl) ?_
    refine RL.q (Qt.lss rfl rfl) ?_
    refine RL.nil ?_
    refine RE.sqN ?_
    refine RC.cond rfl (fun h2 => ?_) (fun h2 => ?_)
    · skip
      have h2 : j < i := by simpa using h2
      refine RC.skip ?_
      refine RE.sqN ?_
      refine RC.seq ?_
      refine RC.block ?_
      refine RC.seq ?_
      refine RC.region rfl ?_
      refine RL.q (Qt.as rfl) ?_
      refine RL.nil ?_
      refine RE.sqN ?_
      refine RC.seq ?_
      refine RC.seq ?_
      refine RC.region rfl ?_
      refine RL.q (Qt.mv rfl) ?_
      refine RL.q (Qt.mv rfl) ?_
      refine RL.q (Qt.lenS rfl) ?_
      refine RL.q (Qt.lss rfl rfl) ?_
      refine RL.nil ?_
      refine RE.sqN ?_
      refine RC.cond rfl (fun h3 => ?_) (fun h3 => ?_)
      · skip
        have h3 : j < ws.length := by simpa using h3
        obtain ⟨b, off, c, T, fz, rfl, hmem, hle, hrow⟩ := hR2 (by omega)
        have hrow := row1 (hrow j h3)
        have hwj := hw _ (List.getElem_mem h3)
        generalize hla : ws[j] = w0 at *
        have hbo := TgOut.some hin h2 (w0 % 4) w0 (by omega)
        have hany := prB_any hin.ok (by decide) (p := (w0 + 1) % 4) (q := w0 % 4) (by omega) (by omega) 9 w0
        have hnab := TgOut.notAbove hin h2 (p := w0 % 4) (by omega) w0
        have hstep := TgOut.take hin h2 (p := w0 % 4) (by omega) w0
        refine RC.region rfl ?_
        refine RL.q (Qt.mv rfl) ?_
        refine RL.q (Qt.mv rfl) ?_
        refine RL.q (Qt.ixS rfl rfl (by omega) (by omega)) ?_
        refine RL.q (Qt.ld rfl (hS.atPin 2 rfl hmem) (by exact hrow)) ?_
        refine RL.q ((by exact Qt.cvtI rfl (by dsimp only [inK]; omega))) ?_
        refine RL.q (Qt.as rfl) ?_
        refine RL.nil ?_
        refine RE.sqN ?_
        refine RC.seq ?_
        refine RC.region rfl ?_
        refine RL.q (Qt.mv rfl) ?_
        refine RL.q (Qt.mv rfl) ?_
        refine RL.q ((by exact Qt.addI rfl rfl (by dsimp only [inK]; omega))) ?_
        refine RL.q ((by exact Qt.remI rfl rfl (by omega))) ?_
        refine RL.e (Ef.call hS (prBest _ 4 64 3 64 L ((w0 + 1) % 4) 9 (by decide)) rfl rfl Try.call18 [0] [1, 2, 3] (by decide) rfl rfl) ?_
        rintro v69 w ⟨ps, ⟨rfl, rfl⟩, hS⟩
        refine RL.q (Qt.mv rfl) ?_
        refine RL.q (Qt.ext rfl rfl) ?_
        refine RL.q (Qt.ext rfl rfl) ?_
        refine RL.q (Qt.ext rfl rfl) ?_
        refine RL.q (Qt.ext rfl rfl) ?_
        refine RL.e (Ef.alloc hS) ?_
        rintro _ w ⟨b12, rfl, hS⟩
        try simp (disch := omega) only [cells_agg'] at hS
        refine RL.q (Qt.as rfl) ?_
        refine RL.e0 (Ef.st hS 0 rfl rfl rfl (by rfl) (by rfl) (by exact Nat.le_of_ble_eq_true rfl)) ?_
        intro _ w hS
        simp (disch := omega) only [List.set_cons_zero, cells_agg'] at hS
        refine RL.q (Qt.as rfl) ?_
        refine RL.q (Qt.as rfl) ?_
        refine RL.nil ?_
        refine RE.sqN ?_
        refine RC.seq ?_
        refine RC.region rfl ?_
        refine RL.q (Qt.mv rfl) ?_
        refine RL.q (Qt.mv rfl) ?_
        refine RL.q ((by exact Qt.remI rfl rfl (by omega))) ?_
        refine RL.q (Qt.mv rfl) ?_
        refine RL.q ((by exact Qt.cvtI rfl (by dsimp only [inK]; omega))) ?_
        refine RL.e (Ef.call hS (prTakeC _ 4 64 3 64 L (w0 % 4) w0 (by omega)) rfl rfl Try.call19 [1] [0, 2, 3, 4] (by decide) rfl rfl) ?_
        rintro v80 w ⟨ps, ⟨rfl, rfl⟩, hS⟩
        refine RL.q (Qt.mv rfl) ?_
        refine RL.q (Qt.ext rfl rfl) ?_
        refine RL.q (Qt.ext rfl rfl) ?_
        refine RL.q (Qt.ext rfl rfl) ?_
        refine RL.q (Qt.ext rfl rfl) ?_
        refine RL.e (Ef.alloc hS) ?_
        rintro _ w ⟨b16, rfl, hS⟩
        try simp (disch := omega) only [cells_agg'] at hS
        refine RL.q (Qt.as rfl) ?_
        refine RL.e0 (Ef.st hS 0 rfl rfl rfl (by rfl) (by rfl) (by exact Nat.le_of_ble_eq_true rfl)) ?_
        intro _ w hS
        simp (disch := omega) only [List.set_cons_zero, cells_agg'] at hS
        refine RL.q (Qt.as rfl) ?_
        refine RL.q (Qt.as rfl) ?_
        refine RL.nil ?_
        refine RE.sqN ?_
        refine RC.seq ?_
        refine RC.seq ?_
        refine RC.region rfl ?_
        refine RL.q (Qt.mv rfl) ?_
        refine RL.q (Qt.not rfl) ?_
        refine RL.q (Qt.mv rfl) ?_
        refine RLG.start 87 false rfl ?_
        refine RLG.q rfl rfl rfl (fun hg => by (try simp only [decide_eq_true_eq, decide_eq_false_iff_not, Bool.or_eq_false_iff, Bool.and_eq_true, Bool.not_eq_true, Bool.not_eq_false, Option.isSome_some, Option.isNone_some] at hg); exact Qt.ldA rfl (by exact hS.at 2 rfl) (by exact hk3 _) (by exact Nat.le_of_ble_eq_true rfl)) ?_
        refine RLG.q rfl rfl rfl (fun hg => by (try simp only [decide_eq_true_eq, decide_eq_false_iff_not, Bool.or_eq_false_iff, Bool.and_eq_true, Bool.not_eq_true, Bool.not_eq_false, Option.isSome_some, Option.isNone_some] at hg); exact Qt.ldA rfl (by exact hS.at 0 rfl) (by exact hk3 _) (by exact Nat.le_of_ble_eq_true rfl)) ?_
        refine RLG.q rfl rfl rfl (fun hg => by (try simp only [decide_eq_true_eq, decide_eq_false_iff_not, Bool.or_eq_false_iff, Bool.and_eq_true, Bool.not_eq_true, Bool.not_eq_false, Option.isSome_some, Option.isNone_some] at hg); exact Qt.neqT rfl rfl (keyEq (prBK L (prB L 4 ((w0 + 1) % 4) 9)) (prBK L (prB L 4 (w0 % 4) w0)))) ?_
        refine RLG.or rfl rfl ?_
        refine RL.q (Qt.mv rfl) ?_
        refine RL.q (Qt.ldA rfl (by exact hS.at 0 rfl) (by exact hk3 _) (by exact Nat.le_of_ble_eq_true rfl)) ?_ (Runs.guard rfl rfl rfl (by simp [hbo, hany]))
        refine RL.q (Qt.ldA rfl (by exact hS.at 3 rfl) (by exact hk3 _) (by exact Nat.le_of_ble_eq_true rfl)) ?_ (Runs.guard rfl rfl rfl (by simp [hbo, hany]))
        refine RL.e (Ef.call hS (kyAbove _ _) rfl rfl Try.call20 [] [0, 1, 2, 3, 4, 5] (by decide) rfl rfl) ?_ (Runs.guard rfl rfl rfl (by simp [hbo, hany]))
        rintro v95 w ⟨ps, ⟨rfl, rfl⟩, hS⟩
        try rw [List.nil_append] at hS
        rw [hnab]
        refine RL.q ((by exact Qt.pickF rfl (by simp [hbo, hany]) rfl)) ?_
        refine RL.nil ?_
        refine RE.sqN ?_
        refine RC.condF rfl (by simp []) ?_
        refine RC.skip ?_
        refine RE.sqN ?_
        refine RC.region rfl ?_
        refine RL.q (Qt.ldA rfl (by exact hS.at 0 rfl) (by exact hk3 _) (by exact Nat.le_of_ble_eq_true rfl)) ?_
        refine RL.e0 (Ef.st hS 3 rfl rfl rfl (by rfl) (by rfl) (by exact Nat.le_of_ble_eq_true rfl)) ?_
        intro _ w hS
        simp (disch := omega) only [List.set_cons_zero, List.set_cons_succ, cells_agg'] at hS
        refine RL.nil ?_
        refine RE.bkN ?_
        refine RE.sqN ?_
        refine RC.region rfl ?_
        refine RL.q (Qt.mv rfl) ?_
        refine RL.q ((by exact Qt.addI rfl rfl (by dsimp only [inK]; omega))) ?_
        refine RL.q (Qt.as rfl) ?_
        refine RL.nil ?_
        apply RE.lpN ((j + 1, prTake L (prB L 4 (w0 % 4) w0), prBK L (prB L 4 (w0 % 4) w0)))
        case hI => exact ⟨rfl, hstep, hS.pick [1, 3, 4, 5] (by decide) rfl⟩
        case hs => (repeat (first | exact Sub.nil | refine Sub.cons rfl ?_))
        case hm =>
          show i - (j + 1) < i - j
          omega
      · skip
        obtain ⟨w0, hw0⟩ : ∃ w0 : Int, w0 = 0 := ⟨0, rfl⟩
        have hwj : 0 ≤ w0 ∧ w0 ≤ 255 := by omega
        rw [← hw0]
        have hbo := TgOut.some hin h2 (w0 % 4) w0 (by omega)
        have hany := prB_any hin.ok (by decide) (p := (w0 + 1) % 4) (q := w0 % 4) (by omega) (by omega) 9 w0
        have hnab := TgOut.notAbove hin h2 (p := w0 % 4) (by omega) w0
        have hstep := TgOut.take hin h2 (p := w0 % 4) (by omega) w0
        refine RC.skip ?_
        refine RE.sqN ?_
        refine RC.seq ?_
        refine RC.region rfl ?_
        refine RL.q (Qt.mv rfl) ?_
        refine RL.q (Qt.mv rfl) ?_
        refine RL.q ((by exact Qt.addI rfl rfl (by dsimp only [inK]; omega))) ?_
        refine RL.q ((by exact Qt.remI rfl rfl (by omega))) ?_
        refine RL.e (Ef.call hS (prBest _ 4 64 3 64 L ((w0 + 1) % 4) 9 (by decide)) rfl rfl Try.call18 [0] [1, 2, 3] (by decide) rfl rfl) ?_
        rintro v69 w ⟨ps, ⟨rfl, rfl⟩, hS⟩
        refine RL.q (Qt.mv rfl) ?_
        refine RL.q (Qt.ext rfl rfl) ?_
        refine RL.q (Qt.ext rfl rfl) ?_
        refine RL.q (Qt.ext rfl rfl) ?_
        refine RL.q (Qt.ext rfl rfl) ?_
        refine RL.e (Ef.alloc hS) ?_
        rintro _ w ⟨b12, rfl, hS⟩
        try simp (disch := omega) only [cells_agg'] at hS
        refine RL.q (Qt.as rfl) ?_
        refine RL.e0 (Ef.st hS 0 rfl rfl rfl (by rfl) (by rfl) (by exact Nat.le_of_ble_eq_true rfl)) ?_
        intro _ w hS
        simp (disch := omega) only [List.set_cons_zero, cells_agg'] at hS
        refine RL.q (Qt.as rfl) ?_
        refine RL.q (Qt.as rfl) ?_
        refine RL.nil ?_
        refine RE.sqN ?_
        refine RC.seq ?_
        refine RC.region rfl ?_
        refine RL.q (Qt.mv rfl) ?_
        refine RL.q (Qt.mv rfl) ?_
        refine RL.q ((by exact Qt.remI rfl rfl (by omega))) ?_
        refine RL.q (Qt.mv rfl) ?_
        refine RL.q ((by exact Qt.cvtI rfl (by dsimp only [inK]; omega))) ?_
        refine RL.e (Ef.call hS (prTakeC _ 4 64 3 64 L (w0 % 4) w0 (by omega)) rfl rfl Try.call19 [1] [0, 2, 3, 4] (by decide) rfl rfl) ?_
        rintro v80 w ⟨ps, ⟨rfl, rfl⟩, hS⟩
        refine RL.q (Qt.mv rfl) ?_
        refine RL.q (Qt.ext rfl rfl) ?_
        refine RL.q (Qt.ext rfl rfl) ?_
        refine RL.q (Qt.ext rfl rfl) ?_
        refine RL.q (Qt.ext rfl rfl) ?_
        refine RL.e (Ef.alloc hS) ?_
        rintro _ w ⟨b16, rfl, hS⟩
        try simp (disch := omega) only [cells_agg'] at hS
        refine RL.q (Qt.as rfl) ?_
        refine RL.e0 (Ef.st hS 0 rfl rfl rfl (by rfl) (by rfl) (by exact Nat.le_of_ble_eq_true rfl)) ?_
        intro _ w hS
        simp (disch := omega) only [List.set_cons_zero, cells_agg'] at hS
        refine RL.q (Qt.as rfl) ?_
        refine RL.q (Qt.as rfl) ?_
        refine RL.nil ?_
        refine RE.sqN ?_
        refine RC.seq ?_
        refine RC.seq ?_
        refine RC.region rfl ?_
        refine RL.q (Qt.mv rfl) ?_
        refine RL.q (Qt.not rfl) ?_
        refine RL.q (Qt.mv rfl) ?_
        refine RLG.start 87 false rfl ?_
        refine RLG.q rfl rfl rfl (fun hg => by (try simp only [decide_eq_true_eq, decide_eq_false_iff_not, Bool.or_eq_false_iff, Bool.and_eq_true, Bool.not_eq_true, Bool.not_eq_false, Option.isSome_some, Option.isNone_some] at hg); exact Qt.ldA rfl (by exact hS.at 2 rfl) (by exact hk3 _) (by exact Nat.le_of_ble_eq_true rfl)) ?_
        refine RLG.q rfl rfl rfl (fun hg => by (try simp only [decide_eq_true_eq, decide_eq_false_iff_not, Bool.or_eq_false_iff, Bool.and_eq_true, Bool.not_eq_true, Bool.not_eq_false, Option.isSome_some, Option.isNone_some] at hg); exact Qt.ldA rfl (by exact hS.at 0 rfl) (by exact hk3 _) (by exact Nat.le_of_ble_eq_true rfl)) ?_
        refine RLG.q rfl rfl rfl (fun hg => by (try simp only [decide_eq_true_eq, decide_eq_false_iff_not, Bool.or_eq_false_iff, Bool.and_eq_true, Bool.not_eq_true, Bool.not_eq_false, Option.isSome_some, Option.isNone_some] at hg); exact Qt.neqT rfl rfl (keyEq (prBK L (prB L 4 ((w0 + 1) % 4) 9)) (prBK L (prB L 4 (w0 % 4) w0)))) ?_
        refine RLG.or rfl rfl ?_
        refine RL.q (Qt.mv rfl) ?_
        refine RL.q (Qt.ldA rfl (by exact hS.at 0 rfl) (by exact hk3 _) (by exact Nat.le_of_ble_eq_true rfl)) ?_ (Runs.guard rfl rfl rfl (by simp [hbo, hany]))
        refine RL.q (Qt.ldA rfl (by exact hS.at 3 rfl) (by exact hk3 _) (by exact Nat.le_of_ble_eq_true rfl)) ?_ (Runs.guard rfl rfl rfl (by simp [hbo, hany]))
        refine RL.e (Ef.call hS (kyAbove _ _) rfl rfl Try.call20 [] [0, 1, 2, 3, 4, 5] (by decide) rfl rfl) ?_ (Runs.guard rfl rfl rfl (by simp [hbo, hany]))
        rintro v95 w ⟨ps, ⟨rfl, rfl⟩, hS⟩
        try rw [List.nil_append] at hS
        rw [hnab]
        refine RL.q ((by exact Qt.pickF rfl (by simp [hbo, hany]) rfl)) ?_
        refine RL.nil ?_
        refine RE.sqN ?_
        refine RC.condF rfl (by simp []) ?_
        refine RC.skip ?_
        refine RE.sqN ?_
        refine RC.region rfl ?_
        refine RL.q (Qt.ldA rfl (by exact hS.at 0 rfl) (by exact hk3 _) (by exact Nat.le_of_ble_eq_true rfl)) ?_
        refine RL.e0 (Ef.st hS 3 rfl rfl rfl (by rfl) (by rfl) (by exact Nat.le_of_ble_eq_true rfl)) ?_
        intro _ w hS
        simp (disch := omega) only [List.set_cons_zero, List.set_cons_succ, cells_agg'] at hS
        refine RL.nil ?_
        refine RE.bkN ?_
        refine RE.sqN ?_
        refine RC.region rfl ?_
        refine RL.q (Qt.mv rfl) ?_
        refine RL.q ((by exact Qt.addI rfl rfl (by dsimp only [inK]; omega))) ?_
        refine RL.q (Qt.as rfl) ?_
        refine RL.nil ?_
        apply RE.lpN ((j + 1, prTake L (prB L 4 (w0 % 4) w0), prBK L (prB L 4 (w0 % 4) w0)))
        case hI => exact ⟨rfl, hstep, hS.pick [1, 3, 4, 5] (by decide) rfl⟩
        case hs => (repeat (first | exact Sub.nil | refine Sub.cons rfl ?_))
        case hm =>
          show i - (j + 1) < i - j
          omega
    · skip
      have hge : i ≤ j := by
        have : ¬ j < i := by simpa using h2
        omega
      have hz := TgOut.done hin hge
      refine RC.exit ?_
      refine RE.sqX ?_
      refine RE.lpX ?_
      refine RE.bkX ?_
      refine RE.sqN ?_
      refine RC.seq ?_
      refine RC.region rfl ?_
      refine RL.q (Qt.mv rfl) ?_
      refine RL.q (Qt.neqN rfl rfl) ?_
      refine RL.q (Qt.mv rfl) ?_
      refine RL.q (Qt.mv rfl) ?_ (Runs.guard rfl rfl rfl (rfl))
      refine RL.e (Ef.call hS (prLenC _ 4 64 3 64 L) rfl rfl Try.call21 [0] [1, 2, 3] (by decide) rfl rfl) ?_ (Runs.guard rfl rfl rfl (rfl))
      rintro v102 w ⟨ps, ⟨rfl, rfl⟩, hS⟩
      refine RL.q (Qt.eql rfl rfl) ?_ (Runs.guard rfl rfl rfl (rfl))
      refine RL.q ((by exact Qt.pickT rfl rfl rfl)) ?_
      refine RL.q (Qt.as rfl) ?_
      refine RL.nil ?_
      refine RE.sqN ?_
      refine RC.ret ?_
      rw [hz]
      exact RE.retB rfl ⟨rfl, rfl⟩ (hS.pick [2, 3] (by decide) rfl)
end Go.Proofs

/- Slices of numbers among the arguments of a law. No condition. -/
namespace Go.Proofs
open Go Go.Gx Go.ChangeShapes Go.WideShapes Go.ChangeAt Go.RowKit Go.Deep

theorem tg_c16 : Try.prog.cellsOf 28 = 1 := by kernel_rfl
theorem tg_c8 : Try.prog.cellsOf 5 = 1 := by kernel_rfl
set_option maxRecDepth 100000 in
theorem u16s_open {H : Type} {enc : TypeId × Value → H} {W : World} {r : Reach} {b0 : Nat} {v : Value} {d : DataW H} {ps : List MemPlace} (hval : Value.okWide Try.prog W r b0 22 v) (hd : DataW.Trod enc Try.prog W 0 (fun _ => true) true 22 v d ps) :
    ∃ l : List Int, NumsAt .u16 v l (allOf W) ∧ ∀ x ∈ l, 0 ≤ x ∧ x ≤ 65535 := slice_open (te := 28) (f := fun i : Int => [Value.int .u16 i]) (ok := fun x : Int => 0 ≤ x ∧ x ≤ 65535) tg_c16 (by decide) (fun _ => rfl) (fun h => by
      obtain ⟨a, e, _, w⟩ := DataW.trod_int (TI.u (P := Try.prog) (t := 28)) h
      exact ⟨a, e, bounds_u16 w⟩) hval hd
set_option maxRecDepth 100000 in
theorem u8s_open {H : Type} {enc : TypeId × Value → H} {W : World} {r : Reach} {b0 : Nat} {v : Value} {d : DataW H} {ps : List MemPlace} (hval : Value.okWide Try.prog W r b0 23 v) (hd : DataW.Trod enc Try.prog W 0 (fun _ => true) true 23 v d ps) :
    ∃ l : List Int, NumsAt .u8 v l (allOf W) ∧ ∀ x ∈ l, 0 ≤ x ∧ x ≤ 255 := slice_open (te := 5) (f := fun i : Int => [Value.int .u8 i]) (ok := fun x : Int => 0 ≤ x ∧ x ≤ 255) tg_c8 (by decide) (fun _ => rfl) (fun h => by
      obtain ⟨a, e, _, w⟩ := DataW.trod_int (TI.u (P := Try.prog) (t := 5)) h
      exact ⟨a, e, bounds_u8 w⟩) hval hd
end Go.Proofs

/- TopSteals, for every input: whatever place something urgent stands at, each processor would take it first; one by one all are taken, falling in urgency; the arguments read as before. No condition. -/
namespace Go.Proofs
open Go Go.Gx Go.ChangeShapes Go.WideShapes Go.ChangeAt Go.RowKit Go.Deep
namespace Ytieanejabjhnjaa
set_option maxRecDepth 100000 in
theorem topSteals_lifted (os : Os) (started : os.Started) (H : Type) (enc : TypeId × Value → H) :
    ReturnsInHanded {} Try.checked os 3 .any (Rows.topStealsSpec.pre6 enc Try.prog Try.f3 Rows.topStealsRow.domain false) (Rows.topStealsSpec.post enc Try.prog Try.f3 false true false false) := by
  refine returnsInHanded_of_change (C := Try.checked) own_knob started (by kernel_rfl) Try.func3
    (ChangeSpec.witness6 (enc := enc) (C := Try.checked) false ⟨#[], #[.slice none 0 0, .slice none 0 0], []⟩ 8 (by kernel_rfl) (by kernel_rfl) (by kernel_rfl) (by kernel_rfl)) ?_
  intro W base args ds gs before hval0 hW hcnd _
  have hval : ∀ (j : Nat) t v, Try.f3.params[j]? = some t → args[j]? = some v → Value.okWide Try.prog W .any base t v := hval0
  have hW' := hW
  obtain ⟨p, q, hA0, hV, rfl, hfz, hnd⟩ := hW
  have hA : DataW.TrodAll enc Try.prog W 0 (fun _ => true) true Try.f3.params.toList args.toList ds p := hA0
  rw [Try.params3] at hA hval
  obtain ⟨v0, v1, d0, d1, p0, p1, rfl, rfl, rfl, h0, h1⟩ := trodAll_two hA
  obtain ⟨rfl, rfl⟩ := trodVars_none hV
  obtain ⟨la, hla, okla⟩ := u16s_open (hval 0 _ v0 rfl rfl) h0
  obtain ⟨lb, hlb, oklb⟩ := u8s_open (hval 1 _ v1 rfl rfl) h1
  refine (tgLawSteals v0 v1 la lb (allOf W) hla hlb okla oklb).law.mono fun e W' ⟨he, hb⟩ => ?_
  subst he
  exact ⟨_, rfl, law_post laid_out (by rw [Try.params3]; decide +kernel) hW' rfl hb rfl (TI.u (P := Try.prog) (t := 4)) rfl rfl rfl⟩

theorem topSteals_holds : Rows.TopStealsSaid :=
  OpenClaim.holds_of_wide 3 Try.f3 rfl rfl rfl rfl rfl rfl rfl ⟨rfl, rfl, rfl, rfl, rfl⟩ rfl rfl rfl rfl rfl (by kernel_rfl) Try.func3 (by show joinedFacts Try.prog 3 Try.f3 Rows.topStealsSpec Rows.topStealsRow = true; unfold joinedFacts; rw [may_enter, lifts_final, make_is]; kernel_rfl)
    (of_decide_eq_true (by kernel_rfl)) (by unfold Func.isWrapper; (rw [if_neg (by decide +kernel)]; exact ⟨rfl, rfl⟩))
    (fun os started H enc _ => topSteals_lifted os started H enc)
end Ytieanejabjhnjaa
end Go.Proofs

/- The queue of levels: the highest flag, Top, Pop, New, Fork. -/
import Derived.Test.YtlicnplclfclcaaBq2
import Derived.Test.YtlicnplclfclcaaSh
namespace Go.Proofs
open Go Go.Gx
variable {oo : World}

/-- The highest flag among those below a bound, where none is above; 0 where there is none. -/
def HiTo (m : Int → Bool) (b x : Int) : Prop := (∀ v, 0 ≤ v → x < v → v < b → m v = false) ∧ ((x = 0 ∧ ∀ v, 0 ≤ v → v < b → m v = false) ∨ (0 ≤ x ∧ x < b ∧ m x = true))

theorem HiTo.skip {m : Int → Bool} {i x : Int} (h : HiTo m (64 * i) x) (h0 : 0 ≤ i) (hz : ∀ v, 64 * i ≤ v → v < 64 * i + 64 → m v = false) : HiTo m (64 * (i + 1)) x := by
  obtain ⟨h1, h2⟩ := h
  refine ⟨fun v a b c => ?_, ?_⟩
  · by_cases e : v < 64 * i
    · exact h1 v a b e
    · exact hz v (by omega) (by omega)
  · rcases h2 with ⟨e, h3⟩ | ⟨a, b, c⟩
    · refine .inl ⟨e, fun v a c => ?_⟩
      by_cases e : v < 64 * i
      · exact h3 v a e
      · exact hz v (by omega) (by omega)
    · exact .inr ⟨a, by omega, c⟩
theorem HiTo.hit {m : Int → Bool} {i n : Int} (h0 : 0 ≤ i) (hn : 0 ≤ n ∧ n < 64) (ht : m (64 * i + n) = true) (hz : ∀ v, 64 * i + n < v → v < 64 * i + 64 → m v = false) : HiTo m (64 * (i + 1)) (64 * i + n) :=
  ⟨fun v _ b c => hz v b (by omega), .inr ⟨by omega, by omega, ht⟩⟩
theorem HiTo.done {m : Int → Bool} {x : Int} (h : HiTo m 256 x) (hne : ∃ v, 0 ≤ v ∧ v ≤ 255 ∧ m v = true) : IsHi m x := by
  obtain ⟨h1, h2⟩ := h
  rcases h2 with ⟨e, h3⟩ | ⟨a, b, c⟩
  · obtain ⟨v, a, b, c⟩ := hne
    rw [h3 v a (by omega)] at c; cases c
  · exact ⟨.inr ⟨a, by omega, c⟩, fun v b c d => h1 v c b (by omega)⟩

theorem wordsAt (W : Int → Int) {i : Int} (h0 : 0 ≤ i) (h1 : i < 4) : (#[Value.int .u64 (W 0), .int .u64 (W 1), .int .u64 (W 2), .int .u64 (W 3)]).toList[0 + i.toNat * 1]? = some (.int .u64 (W i)) := by
  rcases (show i = 0 ∨ i = 1 ∨ i = 2 ∨ i = 3 by omega) with rfl | rfl | rfl | rfl <;> rfl

set_option maxHeartbeats 2000000 in
theorem numHighest (W : Int → Int) (m : Int → Bool) (hm : MW W m) : Ct Try.prog 142 #[wordsV W] [] (fun v ps => ∃ x, v = .int .i64 x ∧ IsHi m x ∧ ps = []) := by
  refine Ct.enter Try.func142 rfl (Nat.le_of_ble_eq_true rfl) ?_
  intro oo w R hS
  change RC _ _ _ _ _ _ [(0, _)] _
  refine RC.seq ?_
  refine RC.region rfl ?_
  refine RL.e (Ef.box hS rfl) ?_
  rintro _ w ⟨b1, rfl, hS⟩
  try simp (disch := omega) only [List.set_cons_zero, List.set_cons_succ, cells_int, cells_bool, cells_ptr, cells_slice, cells_func, cells_agg, cells_map, cells_int', cells_bool', cells_ptr', cells_slice', cells_agg', cells_map', cells_func', Nat.zero_add, wr, List.setIfInBounds_toArray] at hS
  refine RL.q (Qt.as rfl) ?_
  refine RL.nil ?_
  refine RE.sqN ?_
  refine RC.seq ?_
  refine RC.seq ?_
  refine RC.region rfl ?_
  refine RL.q (Qt.ldA rfl (by first | exact hS.at 0 rfl | exact hS.at 1 rfl) (by first  | rfl) (by first | exact Nat.le_of_ble_eq_true rfl | omega | (simp only [Array.size_map]; omega))) ?_
  refine RL.q (Qt.bldA) ?_
  refine RL.q (Qt.eqlA rfl rfl (by rfl) (by rfl) (by rfl) (by rfl) (by kernel_rfl)) ?_
  refine RL.nil ?_
  refine RE.sqN ?_
  -- stops: cond
  refine RC.cond rfl (fun h => ?_) (fun h => ?_)
  · refine RC.seq ?_
    refine RC.region rfl ?_
    refine RL.q (Qt.as rfl) ?_
    refine RL.nil ?_
    refine RE.sqN ?_
    refine RC.ret ?_
    refine RE.sqR ?_
    -- stops: end ret
    have h := of_decide_eq_true h
    have h : W 0 = 0 ∧ W 1 = 0 ∧ W 2 = 0 ∧ W 3 = 0 := by simpa [intV, wordsV] using h
    refine RE.retB rfl ⟨-1, rfl, ⟨.inl rfl, fun v _ h0 h1 => ?_⟩, rfl⟩ (hS.pick [1] (by decide) rfl)
    have hz : ∀ i, 0 ≤ i → i < 4 → W i = 0 := fun i a b => by
      rcases (show i = 0 ∨ i = 1 ∨ i = 2 ∨ i = 3 by omega) with rfl | rfl | rfl | rfl
      · exact h.1
      · exact h.2.1
      · exact h.2.2.1
      · exact h.2.2.2
    exact (hm.isZero (i := v / 64) (by omega) (by omega)).1 (hz _ (by omega) (by omega)) v (by omega) (by omega)
  · skip
    have h := of_decide_eq_false h
    have hne : ∃ v, 0 ≤ v ∧ v ≤ 255 ∧ m v = true := by
      apply Classical.byContradiction
      intro hn
      have hz : ∀ i, 0 ≤ i → i < 4 → W i = 0 := fun i a b => (hm.isZero a b).2 fun v c d => by
        cases hv : m v with
        | false => rfl
        | true => exact absurd ⟨v, by omega, by omega, hv⟩ hn
      apply h
      simp [intV, wordsV, hz 0 (by decide) (by decide), hz 1 (by decide) (by decide), hz 2 (by decide) (by decide), hz 3 (by decide) (by decide)]
    refine RC.skip ?_
    refine RE.sqN ?_
    refine RC.seq ?_
    refine RC.region rfl ?_
    refine RL.q (Qt.as rfl) ?_
    refine RL.nil ?_
    refine RE.sqN ?_
    refine RC.seq ?_
    refine RC.seq ?_
    refine RC.region rfl ?_
    refine RL.q (Qt.mv rfl) ?_
    refine RL.nil ?_
    refine RE.sqN ?_
    refine RC.block ?_
    -- stops: loop
    refine RC.loop (γ := Int × Int) (fun g E w' => E = [(8, .int .i64 g.1), (3, .int .i64 g.2), (1, .pointer (some ⟨b1, 0, none⟩))] ∧ Sat oo w' [pt b1 (.cells #[.int .u64 (W 0), .int .u64 (W 1), .int .u64 (W 2), .int .u64 (W 3)] 167 (0, 0)), R] ∧ (0 ≤ g.1 ∧ g.1 ≤ 4) ∧ HiTo m (64 * g.1) g.2) (fun g => (4 - g.1).toNat) (0, 0) _ (by (repeat (first | exact Sub.nil | refine Sub.cons rfl ?_))) ⟨rfl, hS, by simp, fun v a b c => by simp at c; omega, .inl ⟨rfl, fun v a c => by simp at c; omega⟩⟩ ?_
    clear hS
    rintro ⟨i, x⟩ E w ⟨rfl, hS, hi, hx⟩
    dsimp only at hi hx
    refine RC.seq ?_
    refine RC.region rfl ?_
    refine RL.q (Qt.lss rfl rfl) ?_
    refine RL.nil ?_
    refine RE.sqN ?_
    refine RC.seq ?_
    -- stops: cond
    refine RC.cond rfl (fun h2 => ?_) (fun h2 => ?_)
    · skip
      have h2 : i < 4 := of_decide_eq_true h2
      have hr := hm.rng i hi.1 h2
      dsimp only [inK] at hr
      refine RC.skip ?_
      refine RE.sqN ?_
      refine RC.seq ?_
      refine RC.block ?_
      refine RC.seq ?_
      refine RC.region rfl ?_
      refine RL.q (Qt.mv rfl) ?_
      refine RL.q (Qt.as rfl) ?_
      refine RL.nil ?_
      refine RE.sqN ?_
      refine RC.seq ?_
      refine RC.region rfl ?_
      refine RL.q (Qt.mv rfl) ?_
      refine RL.q (Qt.ixA rfl rfl (by first | assumption | omega | (dsimp only; omega)) (by first | assumption | omega | (dsimp only; omega))) ?_
      refine RL.q (Qt.ld rfl (by first | exact hS.at 0 rfl | exact hS.at 1 rfl) (by first | exact wordsAt W hi.1 h2 | rfl)) ?_
      refine RL.q (Qt.neq rfl rfl) ?_
      refine RL.nil ?_
      refine RE.sqN ?_
      -- stops: cond
      refine RC.cond rfl (fun h3 => ?_) (fun h3 => ?_)
      · skip
        have h3 : W i ≠ 0 := of_decide_eq_true h3
        obtain ⟨n, e1, e2, e3, e4, e5⟩ := hm.len hi.1 h2 h3
        have hl : (0 : Int) ≤ Lib.bitLen (W i).toNat := Int.natCast_nonneg _
        refine RC.region rfl ?_
        refine RL.q (Qt.mv rfl) ?_
        refine RL.q ((by first | exact Qt.mulI rfl rfl (by dsimp only [inK]; omega) | exact Qt.mul rfl rfl)) ?_
        refine RL.q (Qt.mv rfl) ?_
        refine RL.q (Qt.ixA rfl rfl (by first | assumption | omega | (dsimp only; omega)) (by first | assumption | omega | (dsimp only; omega))) ?_
        refine RL.q (Qt.ld rfl (by first | exact hS.at 0 rfl | exact hS.at 1 rfl) (by first | exact wordsAt W hi.1 h2 | rfl)) ?_
        -- stops: op call
        refine RL.e (Ef.call hS (bitsLen64 (W i) hr.1 hr.2) rfl rfl Try.call148 [] [0, 1] (by decide) rfl rfl) ?_
        rintro v20 w ⟨ps, ⟨rfl, rfl⟩, hS⟩
        try rw [List.nil_append] at hS
        refine RL.q ((by first | exact Qt.addI rfl rfl (by dsimp only [inK]; omega) | exact Qt.add rfl rfl)) ?_
        refine RL.q ((by first | exact Qt.subI rfl rfl (by dsimp only [inK]; omega) | exact Qt.sub rfl rfl)) ?_
        refine RL.q (Qt.as rfl) ?_
        refine RL.nil ?_
        refine RE.bkN ?_
        refine RE.sqN ?_
        refine RC.region rfl ?_
        refine RL.q ((by first | exact Qt.addI rfl rfl (by dsimp only [inK]; omega) | exact Qt.add rfl rfl)) ?_
        refine RL.q (Qt.mv rfl) ?_
        refine RL.nil ?_
        -- stops: next
        apply RE.lpN ((i + 1, 64 * i + (Lib.bitLen (W i).toNat : Int) - 1))
        case hI => exact ⟨rfl, hS, by dsimp only; omega, by dsimp only; rw [show 64 * i + (Lib.bitLen (W i).toNat : Int) - 1 = 64 * i + n by omega]; exact HiTo.hit hi.1 ⟨e2, e3⟩ e4 e5⟩
        case hs => (repeat (first | exact Sub.nil | refine Sub.cons rfl ?_))
        case hm =>
          show (4 - (i + 1)).toNat < (4 - i).toNat
          omega
      · refine RC.skip ?_
        refine RE.bkN ?_
        refine RE.sqN ?_
        refine RC.region rfl ?_
        refine RL.q ((by first | exact Qt.addI rfl rfl (by dsimp only [inK]; omega) | exact Qt.add rfl rfl)) ?_
        refine RL.q (Qt.mv rfl) ?_
        refine RL.nil ?_
        -- stops: next
        have h3 : W i = 0 := by simpa using of_decide_eq_false h3
        apply RE.lpN ((i + 1, x))
        case hI => exact ⟨rfl, hS, by dsimp only; omega, hx.skip hi.1 ((hm.isZero hi.1 h2).1 h3)⟩
        case hs => (repeat (first | exact Sub.nil | refine Sub.cons rfl ?_))
        case hm =>
          show (4 - (i + 1)).toNat < (4 - i).toNat
          omega
    · refine RC.exit ?_
      refine RE.sqX ?_
      refine RE.lpX ?_
      refine RE.bkX ?_
      refine RE.sqN ?_
      refine RC.seq ?_
      refine RC.region rfl ?_
      refine RL.q (Qt.mv rfl) ?_
      refine RL.q (Qt.as rfl) ?_
      refine RL.nil ?_
      refine RE.sqN ?_
      refine RC.ret ?_
      -- stops: end ret
      have h2 : ¬ i < 4 := of_decide_eq_false h2
      have : i = 4 := by omega
      subst this
      exact RE.retB rfl ⟨x, rfl, hx.done hne, rfl⟩ (hS.pick [1] (by decide) rfl)

set_option maxHeartbeats 1000000 in
theorem bqTop (p : Value) (n : Nat) (l : List RItem) : Ct Try.prog 114 #[p] [qO p n l] (fun v ps => v = rTop l ∧ ps = [qO p n l]) := by
  refine Ct.enter Try.func114 rfl (Nat.le_of_ble_eq_true rfl) ?_
  intro oo w R hS
  change RC _ _ _ _ _ _ [(0, _)] _
  refine RC.seq ?_
  refine RC.region rfl ?_
  refine RL.q (Qt.as rfl) ?_
  refine RL.q (Qt.as rfl) ?_
  refine RL.q (Qt.as rfl) ?_
  refine RL.nil ?_
  refine RE.sqN ?_
  refine RC.seq ?_
  refine RC.region rfl ?_
  refine RL.q (Qt.mv rfl) ?_
  -- stops: op call
  refine RL.e (Ef.call hS (bqMask p n l) rfl rfl Try.call143 [0] [1] (by decide) rfl rfl) ?_
  rintro v7 w ⟨ps, ⟨⟨W, rfl, hm⟩, rfl⟩, hS⟩
  -- stops: op call
  refine RL.e (Ef.call hS (numHighest W _ hm) rfl rfl Try.call142 [] [0, 1] (by decide) rfl rfl) ?_
  rintro v8 w ⟨ps, ⟨x, rfl, hx, rfl⟩, hS⟩
  try rw [List.nil_append] at hS
  refine RL.q (Qt.as rfl) ?_
  refine RL.nil ?_
  refine RE.sqN ?_
  refine RC.seq ?_
  refine RC.seq ?_
  refine RC.region rfl ?_
  refine RL.q (Qt.mv rfl) ?_
  refine RL.q (Qt.lss rfl rfl) ?_
  refine RL.nil ?_
  refine RE.sqN ?_
  -- stops: cond
  obtain ⟨q, W', b, bl, cap, c, cl, rfl, hq, hS⟩ := qO_open hS
  obtain ⟨t1, t2⟩ := rTop_hi hx (fun v _ _ => by simp [lvM]) (fun y hy => (hq.ri.range y hy).2)
  refine RC.cond rfl (fun h => ?_) (fun h => ?_)
  · refine RC.seq ?_
    refine RC.region rfl ?_
    refine RL.q (Qt.as rfl) ?_
    refine RL.q (Qt.as rfl) ?_
    refine RL.q (Qt.as rfl) ?_
    refine RL.nil ?_
    refine RE.sqN ?_
    refine RC.ret ?_
    refine RE.sqR ?_
    -- stops: end ret
    have h : x < 0 := of_decide_eq_true h
    have t3 := (t1 h).2
    refine RE.retB rfl ⟨?_, rfl⟩ (qO_shut hq hS)
    rw [rTop, if_pos (by omega)]; rfl
  · skip
    have h : ¬ x < 0 := of_decide_eq_false h
    obtain ⟨a1, a2, a3, a4, a5⟩ := t2 (by omega)
    have hf := hq.qc.first x (by omega) a2
    rw [(hq.ri.seg x (by omega) a2).2.1, a4] at hf
    have hS0 := hS
    refine RC.skip ?_
    refine RE.sqN ?_
    refine RC.seq ?_
    refine RC.drawn 11 [0, 1, 2, 3, 4, 5, 6, 7, 8, 9, 10] (Same _) (by kernel_rfl) (by kernel_rfl) Same.drew (fun hh => ?_)
    replace hS := hS.drew
    refine RH.q hh (Calm.sq Calm.body) rfl (by kernel_rfl) (Qt.mv rfl) ?_
    refine RH.q hh (Calm.sq Calm.body) rfl (by kernel_rfl) ((by first | exact Qt.cvtI rfl (by dsimp only [inK]; omega) | exact Qt.cvt rfl)) ?_
    refine RH.q hh (Calm.sq Calm.body) rfl (by kernel_rfl) (Qt.mv rfl) ?_
    refine RH.q hh (Calm.sq Calm.body) rfl (by kernel_rfl) (Qt.mv rfl) ?_
    refine RH.q hh (Calm.sq Calm.body) rfl (by kernel_rfl) (Qt.nil rfl) ?_
    refine RH.q hh (Calm.sq Calm.body) rfl (by kernel_rfl) (Qt.fld rfl) ?_
    refine RH.q hh (Calm.sq Calm.body) rfl (by kernel_rfl) (Qt.ixA rfl rfl (by first | assumption | omega | (dsimp only; omega)) (by first | assumption | omega | (dsimp only; omega))) ?_
    refine RH.q hh (Calm.sq Calm.body) rfl (by kernel_rfl) (Qt.ld rfl (by first | exact hS.at 0 rfl | exact hS.at 1 rfl | exact hS.at 2 rfl) (by first | exact hf | rfl)) ?_
    refine RH.q hh (Calm.sq Calm.body) rfl (by kernel_rfl) (Qt.as rfl) ?_
    refine RH.q hh (Calm.sq Calm.body) rfl (by kernel_rfl) (Qt.as rfl) ?_
    refine RH.q hh (Calm.sq Calm.body) rfl (by kernel_rfl) (Qt.as rfl) ?_
    refine RH.done hh (by kernel_rfl) ?_
    refine RL.nil ?_
    refine RE.sqN ?_
    refine RC.ret ?_
    -- stops: end ret
    refine RE.retB rfl ⟨?_, rfl⟩ (qO_shut hq hS0.drew)
    rw [rTop, if_neg (by omega), a3]; rfl

theorem zQ (v : Value) : QC (fun _ => 0) (fun _ => 0) (fun _ => 0) 0 v (wr (zrun [(1, .slice none 0 0), (512, .int .i64 0), (4, .int .u64 0), (1, .int .i64 0)]) 0 [v]) := by
  have h : QC (fun _ => 0) (fun _ => 0) (fun _ => 0) 0 (.slice none 0 0) (zrun [(1, .slice none 0 0), (512, .int .i64 0), (4, .int .u64 0), (1, .int .i64 0)]) := by
    refine ⟨zrun_size _, by rw [zrun_get]; rfl, ?_, ?_, ?_, by rw [zrun_get]; rfl⟩
    · intro v h0 h1
      rw [zrun_get]
      simp only [zat]
      rw [if_neg (by omega), if_pos (by omega)]
    · intro v h0 h1
      rw [zrun_get]
      simp only [zat]
      rw [if_neg (by omega), if_pos (by omega)]
    · intro v h0 h1
      rw [zrun_get]
      simp only [zat]
      rw [if_neg (by omega), if_neg (by omega), if_pos (by omega)]
  exact h.setLinks v
theorem fillQ (v : Value) (hv : v.cells = #[v]) : Instr.fill (fun x => (#[(0, 1), (1, 256), (257, 256), (513, 4), (517, 1)] : Array (Nat × Nat))[x]?) (Value.cells (.agg (zrun [(1, .slice none 0 0), (512, .int .i64 0), (4, .int .u64 0), (1, .int .i64 0)]))) [(0, v)] = some (wr (zrun [(1, .slice none 0 0), (512, .int .i64 0), (4, .int .u64 0), (1, .int .i64 0)]) 0 [v]) := by
  rw [cells_agg']
  exact fill1 rfl hv (by rw [zrun_size]; decide)

theorem upd_lt (i v : Int) : (if v < i + 1 then (-1 : Int) else 0) = upd (fun v => if v < i then -1 else 0) i (-1) v := by
  by_cases e : v = i
  · subst e; rw [upd_same, if_pos (by omega)]
  · rw [upd_ne _ _ e]
    by_cases e2 : v < i
    · rw [if_pos (by omega), if_pos e2]
    · rw [if_neg (by omega), if_neg e2]

set_option maxHeartbeats 1000000 in
theorem bqNew (n : Int) (h0 : 1 ≤ n) (h1 : n ≤ 1024) : Ct Try.prog 115 #[.int .i64 n] [] (fun v ps => ps = [qO v n.toNat []]) := by
  refine Ct.enter Try.func115 rfl (Nat.le_of_ble_eq_true rfl) ?_
  intro oo w R hS
  change RC _ _ _ _ _ _ [(0, _)] _
  refine RC.seq ?_
  refine RC.region rfl ?_
  refine RL.q (Qt.as rfl) ?_
  refine RL.nil ?_
  refine RE.sqN ?_
  refine RC.seq ?_
  refine RC.seq ?_
  refine RC.region rfl ?_
  refine RL.q (Qt.mv rfl) ?_
  refine RL.q (Qt.lss rfl rfl) ?_
  refine RL.q (Qt.mv rfl) ?_
  refine RLG.start 7 false rfl ?_
  refine RLG.q rfl rfl rfl (fun _ => Qt.mv rfl) ?_
  refine RLG.q rfl rfl rfl (fun hg => by (try simp only [decide_eq_false_iff_not] at hg); exact Qt.gtr rfl rfl) ?_
  refine RLG.or rfl rfl ?_
  refine RL.nil ?_
  refine RE.sqN ?_
  -- stops: cond
  refine RC.condF rfl (by simp; omega) ?_
  refine RC.skip ?_
  refine RE.sqN ?_
  refine RC.seq ?_
  refine RC.region rfl ?_
  refine RL.q (Qt.mv rfl) ?_
  refine RL.e (Ef.mks hS rfl (by first | assumption | omega | (dsimp only; omega)) (by first | assumption | omega | (dsimp only; omega)) (by decide)) ?_
  rintro _ w ⟨b12, rfl, hS⟩
  refine RL.q (Qt.bld rfl (fillQ _ rfl)) ?_
  refine RL.e (Ef.box hS rfl) ?_
  rintro _ w ⟨b14, rfl, hS⟩
  try simp (disch := omega) only [cells_agg'] at hS
  refine RL.q (Qt.as rfl) ?_
  refine RL.nil ?_
  refine RE.sqN ?_
  refine RC.seq ?_
  refine RC.seq ?_
  refine RC.region rfl ?_
  refine RL.q (Qt.mv rfl) ?_
  refine RL.nil ?_
  refine RE.sqN ?_
  refine RC.block ?_
  -- stops: loop
  have hla : LA (fun _ => 0) (fun _ => 0) (fun _ => 0) (fun _ => false) n.toNat ((Array.range (n.toNat * 4)).map ((#[Value.int .i64 0, .int .i64 0, .int .u8 0, .bool false])[· % (#[Value.int .i64 0, .int .i64 0, .int .u8 0, .bool false]).size]!)) := by
    have hg : ∀ (i : Int) (j : Nat), 0 ≤ i → i < n.toNat → j < 4 → ((Array.range (n.toNat * 4)).map ((#[Value.int .i64 0, .int .i64 0, .int .u8 0, .bool false])[· % (#[Value.int .i64 0, .int .i64 0, .int .u8 0, .bool false]).size]!)).toList[0 + i.toNat * 4 + j]? = some ((#[Value.int .i64 0, .int .i64 0, .int .u8 0, .bool false])[j]!) := fun i j a b c => by
      rw [Array.getElem?_toList, Array.getElem?_map, Array.getElem?_range, if_pos (by omega)]
      simp only [Option.map_some]
      rw [show (0 + i.toNat * 4 + j) % (#[Value.int IntKind.i64 0, .int .i64 0, .int .u8 0, .bool false]).size = j by
        show (0 + i.toNat * 4 + j) % 4 = j
        omega]
    exact ⟨by simp, fun i a b => hg i 0 a b (by decide), fun i a b => hg i 1 a b (by decide), fun i a b => hg i 2 a b (by decide), fun i a b => hg i 3 a b (by decide)⟩
  generalize ((Array.range (n.toNat * 4)).map ((#[Value.int .i64 0, .int .i64 0, .int .u8 0, .bool false])[· % (#[Value.int .i64 0, .int .i64 0, .int .u8 0, .bool false]).size]!)) = cl at hS hla
  have hq := zQ (.slice (some ⟨b12, 0, none⟩) n.toNat n.toNat)
  generalize wr (zrun [(1, .slice none 0 0), (512, .int .i64 0), (4, .int .u64 0), (1, .int .i64 0)]) 0 [.slice (some ⟨b12, 0, none⟩) n.toNat n.toNat] = c0 at hS hq
  refine RC.loop (γ := Int × Array Value) (fun g E w' => E = [(15, .int .i64 g.1), (3, .pointer (some ⟨b14, 0, none⟩))] ∧ Sat oo w' [pt b14 (.cells g.2 169 (0, 0)), pt b12 (.cells cl 171 (0, 0)), R] ∧ (0 ≤ g.1 ∧ g.1 ≤ 256) ∧ QC (fun v => if v < g.1 then -1 else 0) (fun v => if v < g.1 then -1 else 0) (fun _ => 0) 0 (.slice (some ⟨b12, 0, none⟩) n.toNat n.toNat) g.2) (fun g => (256 - g.1).toNat) (0, c0) _ (by (repeat (first | exact Sub.nil | refine Sub.cons rfl ?_))) ⟨rfl, hS, by simp, ?_⟩ ?_
  · refine hq.congr (fun v a b => ?_) (fun v a b => ?_)
    · simp only; rw [if_neg (by omega)]
    · simp only; rw [if_neg (by omega)]
  clear hS hq
  rintro ⟨i, c⟩ E w ⟨rfl, hS, hi, hq⟩
  dsimp only at hi hq
  refine RC.seq ?_
  refine RC.region rfl ?_
  refine RL.q (Qt.lss rfl rfl) ?_
  refine RL.nil ?_
  refine RE.sqN ?_
  refine RC.seq ?_
  -- stops: cond
  refine RC.cond rfl (fun h2 => ?_) (fun h2 => ?_)
  · skip
    have h2 : i < 256 := of_decide_eq_true h2
    have hz := hq.size
    refine RC.skip ?_
    refine RE.sqN ?_
    refine RC.seq ?_
    refine RC.block ?_
    refine RC.seq ?_
    refine RC.region rfl ?_
    refine RL.q (Qt.mv rfl) ?_
    refine RL.q (Qt.as rfl) ?_
    refine RL.nil ?_
    refine RE.sqN ?_
    -- stops: drawn
    refine RC.drawn 10 [0, 1, 2, 3, 4, 5, 6, 8, 9, 7] (fun _ => True) (by kernel_rfl) (by kernel_rfl) trivial (fun hh => ?_)
    replace hS := hS.drew
    refine RH.q hh (Calm.bk (Calm.sq (Calm.lp (Calm.bk (Calm.sq Calm.body))))) rfl (by kernel_rfl) (Qt.mv rfl) ?_
    refine RH.q hh (Calm.bk (Calm.sq (Calm.lp (Calm.bk (Calm.sq Calm.body))))) rfl (by kernel_rfl) (Qt.mv rfl) ?_
    refine RH.q hh (Calm.bk (Calm.sq (Calm.lp (Calm.bk (Calm.sq Calm.body))))) rfl (by kernel_rfl) (Qt.mv rfl) ?_
    refine RH.q hh (Calm.bk (Calm.sq (Calm.lp (Calm.bk (Calm.sq Calm.body))))) rfl (by kernel_rfl) (Qt.mv rfl) ?_
    refine RH.q hh (Calm.bk (Calm.sq (Calm.lp (Calm.bk (Calm.sq Calm.body))))) rfl (by kernel_rfl) (Qt.nil rfl) ?_
    refine RH.q hh (Calm.bk (Calm.sq (Calm.lp (Calm.bk (Calm.sq Calm.body))))) rfl (by kernel_rfl) (Qt.fld rfl) ?_
    refine RH.q hh (Calm.bk (Calm.sq (Calm.lp (Calm.bk (Calm.sq Calm.body))))) rfl (by kernel_rfl) (Qt.ixA rfl rfl (by first | assumption | omega | (dsimp only; omega)) (by first | assumption | omega | (dsimp only; omega))) ?_
    refine RH.q hh (Calm.bk (Calm.sq (Calm.lp (Calm.bk (Calm.sq Calm.body))))) rfl (by kernel_rfl) (Qt.nil rfl) ?_
    refine RH.q hh (Calm.bk (Calm.sq (Calm.lp (Calm.bk (Calm.sq Calm.body))))) rfl (by kernel_rfl) (Qt.fld rfl) ?_
    first | refine RH.e0 hh rfl (by kernel_rfl) (Ef.st hS 0 rfl rfl rfl (by rfl) (by rfl) (by first | exact Nat.le_of_ble_eq_true rfl | omega | (simp only []; omega))) ?_ | refine RH.e0 hh rfl (by kernel_rfl) (Ef.st hS 1 rfl rfl rfl (by rfl) (by rfl) (by first | exact Nat.le_of_ble_eq_true rfl | omega | (simp only [wr_size]; omega))) ?_ | refine RH.e0 hh rfl (by kernel_rfl) (Ef.st hS 2 rfl rfl rfl (by rfl) (by rfl) (by first | exact Nat.le_of_ble_eq_true rfl | omega | (simp only [wr_size]; omega))) ?_
    intro _ w hS
    simp (disch := omega) only [List.set_cons_zero, cells_int', Nat.zero_add, List.set_cons_zero] at hS
    refine ⟨trivial, ?_⟩
    refine RH.done hh (by kernel_rfl) ?_
    refine RL.q (Qt.ixA rfl rfl (by first | assumption | omega | (dsimp only; omega)) (by first | assumption | omega | (dsimp only; omega))) ?_
    first | refine RL.e0 (Ef.st hS 0 rfl rfl rfl (by rfl) (by rfl) (by first | exact Nat.le_of_ble_eq_true rfl | omega | (simp only [wr_size]; omega))) ?_ | refine RL.e0 (Ef.st hS 1 rfl rfl rfl (by rfl) (by rfl) (by first | exact Nat.le_of_ble_eq_true rfl | omega | (simp only [wr_size]; omega))) ?_ | refine RL.e0 (Ef.st hS 2 rfl rfl rfl (by rfl) (by rfl) (by first | exact Nat.le_of_ble_eq_true rfl | omega | (simp only [wr_size]; omega))) ?_
    intro _ w hS
    simp (disch := omega) only [List.set_cons_zero, cells_int', Nat.zero_add, List.set_cons_zero] at hS
    refine RL.nil ?_
    refine RE.bkN ?_
    refine RE.sqN ?_
    refine RC.region rfl ?_
    refine RL.q ((by first | exact Qt.addI rfl rfl (by dsimp only [inK]; omega) | exact Qt.add rfl rfl)) ?_
    refine RL.q (Qt.mv rfl) ?_
    refine RL.nil ?_
    -- stops: next
    have hq1 := (hq.setFirst hi.1 (by omega) (-1)).setLast hi.1 (by omega) (-1)
    apply RE.lpN ((i + 1, _))
    case hI => exact ⟨rfl, hS, by dsimp only; omega, hq1.congr (fun v _ _ => upd_lt i v) (fun v _ _ => upd_lt i v)⟩
    case hs => (repeat (first | exact Sub.nil | refine Sub.cons rfl ?_))
    case hm =>
      show (256 - (i + 1)).toNat < (256 - i).toNat
      omega
  · refine RC.exit ?_
    refine RE.sqX ?_
    refine RE.lpX ?_
    refine RE.bkX ?_
    refine RE.sqN ?_
    refine RC.seq ?_
    refine RC.region rfl ?_
    refine RL.q (Qt.mv rfl) ?_
    refine RL.q (Qt.as rfl) ?_
    refine RL.nil ?_
    refine RE.sqN ?_
    refine RC.ret ?_
    -- stops: end ret
    have h2 : ¬ i < 256 := of_decide_eq_false h2
    refine RE.retB rfl (ps := [qO _ n.toNat []]) rfl (qO_shut (q := ⟨fun _ => 0, fun _ => 0, fun _ => 0, fun _ => false, fun _ => -1, fun _ => -1, fun _ => false, 0⟩) (W := fun _ => 0) ⟨?_, MW.zero, by omega, by omega, hq.congr (fun v a b => (if_pos (by omega)).symm) (fun v a b => (if_pos (by omega)).symm), hla⟩ hS)
    refine ⟨by simp, by simp, by simp, by simp, fun v a b => ⟨trivial, rfl, rfl⟩, by simp [rIds], rfl⟩
end Go.Proofs

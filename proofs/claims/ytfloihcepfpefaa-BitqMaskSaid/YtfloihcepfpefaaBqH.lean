/- The law BitqMask answers true. -/
import Derived.Test.YtfloihcepfpefaaBqM
namespace Go.Gx
open Go
/-- A guard that was itself passed over says no. -/
theorem Skips.undef {ops : Array Oper} {E : Env} {o : Oper} {j t : Nat} {want : Bool} (h : o.guard = some (j, want)) (hj : (ops[j]?).bind (·.dst) = some t) (hb : look E t = some Go.undef) : Skips ops E o := fun a ha => by
  have h1 := ha t _ hb
  simp only [Region.wanted, h]
  unfold yielded
  rw [hj]
  simp only [Option.bind_some]
  simp only [Array.getD_eq_getD_getElem?] at h1
  cases hq : a.tmps[t]? with
  | none => rfl
  | some u => rw [hq] at h1; simp [Go.undef] at h1; subst h1; rfl
end Go.Gx
namespace Go.Proofs
open Go Go.Gx
variable {oo : World}

def cntLt (l : List RItem) (v : Int) : Nat := (l.filter (fun x => decide (x.lv < v))).length
theorem cnt_step (l : List RItem) (v : Int) : cntLt l (v + 1) = cntLt l v + (rIds l v).length := by
  induction l with
  | nil => rfl
  | cons x l ih =>
    unfold cntLt rIds at *
    simp only [List.filter_cons]
    by_cases h1 : x.lv < v
    · have h2 : x.lv < v + 1 := by omega
      have h3 : ¬ x.lv = v := by omega
      simp [h1, h2, h3] at ih ⊢
      omega
    · by_cases h3 : x.lv = v
      · have h2 : x.lv < v + 1 := by omega
        have h4 : v < v + 1 := by omega
        simp [h3, h4] at ih ⊢
        omega
      · have h2 : ¬ x.lv < v + 1 := by omega
        simp [h1, h2, h3] at ih ⊢
        omega
theorem cnt_zero {l : List RItem} (h : ∀ y ∈ l, 0 ≤ y.lv ∧ y.lv ≤ 255) : cntLt l 0 = 0 := by
  unfold cntLt
  rw [List.length_eq_zero_iff, List.filter_eq_nil_iff]
  intro y hy
  have := h y hy
  simp
  omega
theorem cnt_full {l : List RItem} (h : ∀ y ∈ l, 0 ≤ y.lv ∧ y.lv ≤ 255) : cntLt l 256 = l.length := by
  unfold cntLt
  rw [List.filter_eq_self.2]
  intro y hy
  have := h y hy
  simp
  omega
theorem cnt_le (l : List RItem) (v : Int) : cntLt l v ≤ l.length := List.length_filter_le _ _

theorem hi_top {l : List RItem} (hn : (l.map RItem.id).Nodup) (hr : ∀ y ∈ l, 0 ≤ y.lv ∧ y.lv ≤ 255) (hne : l ≠ []) : IsHi (lvM l) (topLv l) := by
  obtain ⟨f1, t, f2⟩ := top_facts hne
  obtain ⟨_, ⟨x, hx, g2, _⟩, _⟩ := pop_facts hn hne
  have := hr x hx
  refine ⟨.inr ⟨by omega, by omega, by unfold lvM; rw [f2]; simp⟩, fun v a b c => ?_⟩
  have : rIds l v = [] := Classical.byContradiction fun h => by
    obtain ⟨y, hy, hyl, _⟩ := mem_rIds.1 (head_mem h)
    have := f1 y hy
    omega
  unfold lvM
  rw [this]; simp

set_option maxHeartbeats 2000000 in
theorem bqLawMask (n : Int) (hn : 0 ≤ n ∧ n ≤ 255) (v : Value) (ds : List Deed) (F0 : Frag) (hR : DeedsAt v ds F0) (hd : ∀ x ∈ ds, x.ok) : Ct Try.prog 6 #[.int .u8 n, v] [pin F0] (fun v' ps => v' = .bool true ∧ ps = [pin F0]) := by
  refine Ct.enter Try.func6 rfl (Nat.le_of_ble_eq_true rfl) ?_
  intro oo w R hS
  change RC _ _ _ _ _ _ [(0, _), (1, _)] _
  refine RC.seq ?_
  refine RC.region rfl ?_
  refine RL.q (Qt.as rfl) ?_
  refine RL.nil ?_
  refine RE.sqN ?_
  refine RC.seq ?_
  refine RC.region rfl ?_
  refine RL.q (Qt.mv rfl) ?_
  refine RL.q (Qt.mv rfl) ?_
  -- stops: op call
  refine RL.e (Ef.call hS (bqPlay n hn v ds F0 hR hd) rfl rfl Try.call11 [0] [1] (by decide) rfl rfl) ?_
  rintro v18 w ⟨ps, ⟨p, r, l, rfl, rfl⟩, hS⟩
  refine RL.q (Qt.mv rfl) ?_
  refine RL.q (Qt.ext rfl rfl) ?_
  refine RL.q (Qt.ext rfl rfl) ?_
  refine RL.q (Qt.ext rfl rfl) ?_
  refine RL.q (Qt.as rfl) ?_
  refine RL.q (Qt.as rfl) ?_
  refine RL.q (Qt.as rfl) ?_
  refine RL.nil ?_
  refine RE.sqN ?_
  refine RC.seq ?_
  refine RC.seq ?_
  refine RC.region rfl ?_
  -- stops: op call
  refine RL.e (Ef.call hS (bqLive) rfl rfl Try.call12 [] [0, 1, 2, 3] (by decide) rfl rfl) ?_
  rintro v22 w ⟨ps, ⟨rfl, p', l', rfl⟩, hS⟩
  refine RL.q (Qt.not rfl) ?_
  refine RL.q (Qt.mv rfl) ?_
  refine RLG.start 24 false rfl ?_
  refine RLG.q rfl rfl rfl (fun _ => Qt.mv rfl) ?_
  refine RLG.q rfl rfl rfl (fun _ => Qt.not rfl) ?_
  refine RLG.or rfl rfl ?_
  refine RL.nil ?_
  refine RE.sqN ?_
  -- stops: cond
  refine RC.condF rfl (rfl) ?_
  refine RC.skip ?_
  refine RE.sqN ?_
  refine RC.seq ?_
  refine RC.region rfl ?_
  refine RL.q (Qt.mv rfl) ?_
  -- stops: op call
  refine RL.e (Ef.call hS (bqMask p _ l) rfl rfl Try.call15 [1] [0, 2, 3, 4] (by decide) rfl rfl) ?_
  rintro v29 w ⟨ps, ⟨⟨W, rfl, hm⟩, rfl⟩, hS⟩
  refine RL.e (Ef.alloc hS) ?_
  rintro _ w ⟨b8, rfl, hS⟩
  try simp (disch := omega) only [cells_agg'] at hS
  first | refine RL.e0 (Ef.st hS 0 rfl rfl rfl (by rfl) (by rfl) (by first | exact Nat.le_of_ble_eq_true rfl | omega | (simp only [Array.size_map]; omega))) ?_ | refine RL.e0 (Ef.st hS 1 rfl rfl rfl (by rfl) (by rfl) (by first | exact Nat.le_of_ble_eq_true rfl | omega | (simp only [Array.size_map]; omega))) ?_ | refine RL.e0 (Ef.st hS 2 rfl rfl rfl (by rfl) (by rfl) (by first | exact Nat.le_of_ble_eq_true rfl | omega | (simp only [Array.size_map]; omega))) ?_ | refine RL.e0 (Ef.st hS 3 rfl rfl rfl (by rfl) (by rfl) (by first | exact Nat.le_of_ble_eq_true rfl | omega | (simp only [Array.size_map]; omega))) ?_ | refine RL.e0 (Ef.st hS 4 rfl rfl rfl (by rfl) (by rfl) (by first | exact Nat.le_of_ble_eq_true rfl | omega | (simp only [Array.size_map]; omega))) ?_ | refine RL.e0 (Ef.st hS 5 rfl rfl rfl (by rfl) (by rfl) (by first | exact Nat.le_of_ble_eq_true rfl | omega | (simp only [Array.size_map]; omega))) ?_
  intro _ w hS
  simp (disch := omega) only [List.set_cons_zero] at hS
  refine RL.nil ?_
  refine RE.sqN ?_
  refine RC.seq ?_
  refine RC.region rfl ?_
  refine RL.q (Qt.mv rfl) ?_
  -- stops: op call
  have hq : ∃ q : BQ, RI q (n % 12 + 1).toNat l := by
    obtain ⟨q, _, _, _, _, _, _, _, hq, _⟩ := qO_open (hS.pick [1, 0, 2, 3, 4, 5] (by decide) rfl)
    exact ⟨q, hq.ri⟩
  obtain ⟨q, hq⟩ := hq
  have hlen := hq.lenLe
  have hrng : ∀ y ∈ l, 0 ≤ y.lv ∧ y.lv ≤ 255 := fun y hy => (hq.range y hy).2
  refine RL.e (Ef.call hS (bqTopT p _ l) rfl rfl Try.call16 [1] [0, 2, 3, 4, 5] (by decide) rfl rfl) ?_
  rintro v32 w ⟨ps, ⟨rfl, rfl⟩, hS⟩
  refine RL.q (Qt.mv rfl) ?_
  refine RL.q (Qt.ext rfl rfl) ?_
  refine RL.q (Qt.ext rfl rfl) ?_
  refine RL.q (Qt.ext rfl rfl) ?_
  refine RL.q (Qt.as rfl) ?_
  refine RL.q (Qt.as rfl) ?_
  refine RL.q (Qt.as rfl) ?_
  refine RL.nil ?_
  refine RE.sqN ?_
  refine RC.seq ?_
  refine RC.region rfl ?_
  refine RL.q (Qt.as rfl) ?_
  refine RL.nil ?_
  refine RE.sqN ?_
  refine RC.seq ?_
  refine RC.seq ?_
  refine RC.region rfl ?_
  refine RL.q (Qt.as rfl) ?_
  refine RL.nil ?_
  refine RE.sqN ?_
  refine RC.block ?_
  -- stops: loop
  refine RC.loop (γ := Int) (fun i E w' => E = [(13, .int .i64 i), (12, .int .i64 (cntLt l i)), (8, .pointer (some ⟨b8, 0, none⟩)), (5, p), (9, .int .u8 (topLv l)), (11, .bool (topOk l))] ∧ Sat oo w' [pt b8 (.cells #[.int .u64 (W 0), .int .u64 (W 1), .int .u64 (W 2), .int .u64 (W 3)] 33 (0, 0)), qO p (n % 12 + 1).toNat l, pin F0, R] ∧ (0 ≤ i ∧ i ≤ 256)) (fun i => (256 - i).toNat) 0 _ (by rw [cnt_zero hrng]; (repeat (first | exact Sub.nil | refine Sub.cons rfl ?_))) ⟨rfl, hS.pick [1, 0, 4, 5] (by decide) rfl, by omega⟩ ?_
  clear hS
  rintro i E w ⟨rfl, hS, hi⟩
  refine RC.seq ?_
  refine RC.seq ?_
  refine RC.region rfl ?_
  refine RL.q (Qt.mv rfl) ?_
  refine RL.q (Qt.lss rfl rfl) ?_
  refine RL.nil ?_
  refine RE.sqN ?_
  -- stops: cond
  refine RC.cond rfl (fun h => ?_) (fun h => ?_)
  · skip
    have h : i < 256 := of_decide_eq_true h
    have hcl := cnt_le l (i + 1)
    have hcs := cnt_step l i
    have hf : decide (andB (W (i / 64)) (i % 64) = 1) = decide (((rIds l i).length : Int) > 0) := by
      rw [flagAt hm hi.1 (by omega), lvM]
      cases hr : rIds l i <;> simp
    refine RC.skip ?_
    refine RE.sqN ?_
    refine RC.seq ?_
    refine RC.block ?_
    refine RC.seq ?_
    refine RC.region rfl ?_
    refine RL.q (Qt.mv rfl) ?_
    refine RL.q (Qt.mv rfl) ?_
    refine RL.q ((by first | exact Qt.cvtI rfl (by dsimp only [inK]; omega) | exact Qt.cvt rfl)) ?_
    -- stops: op call
    refine RL.e (Ef.call hS (bqListP p _ l i ⟨hi.1, by omega⟩) rfl rfl Try.call18 [1] [0, 2, 3] (by decide) rfl rfl) ?_
    rintro v43 w ⟨ps, rfl, hS⟩
    obtain ⟨sp, cap, rfl⟩ := hS.ownForm 0 rfl
    refine RL.q (Qt.lenS rfl) ?_
    refine RL.q (Qt.as rfl) ?_
    refine RL.nil ?_
    refine RE.sqN ?_
    refine RC.seq ?_
    refine RC.region rfl ?_
    refine RL.q (Qt.mv rfl) ?_
    refine RL.q (Qt.mv rfl) ?_
    refine RL.q ((by first | exact Qt.addI rfl rfl (by dsimp only [inK]; omega) | exact Qt.add rfl rfl)) ?_
    refine RL.q (Qt.as rfl) ?_
    refine RL.nil ?_
    refine RE.sqN ?_
    refine RC.seq ?_
    refine RC.region rfl ?_
    refine RL.q (Qt.mv rfl) ?_
    refine RL.q ((by first | exact Qt.quoI rfl rfl (by dsimp only [inK]; omega) (by omega) | exact Qt.quo rfl rfl (by first | decide | omega))) ?_
    refine RL.q (Qt.ixA rfl rfl (by first | assumption | omega) (by first | assumption | omega)) ?_
    refine RL.q (Qt.ld rfl (by first | exact hS.at 0 rfl | exact hS.at 1 rfl | exact hS.at 2 rfl | exact hS.at 3 rfl | exact hS.at 4 rfl) (by first | exact wordsAt W (show 0 ≤ i / 64 by omega) (show i / 64 < 4 by omega) | rfl)) ?_
    refine RL.q (Qt.mv rfl) ?_
    refine RL.q ((by first | exact Qt.remI rfl rfl (by omega) | exact Qt.rem rfl rfl (by first | decide | omega))) ?_
    refine RL.q (Qt.shr rfl rfl (by first | assumption | omega)) ?_
    refine RL.q (Qt.and rfl rfl) ?_
    refine RL.q (Qt.eql rfl rfl) ?_
    refine RL.q (Qt.mv rfl) ?_
    refine RL.q (Qt.gtr rfl rfl) ?_
    refine RL.q (Qt.neqB rfl rfl) ?_
    refine RL.nil ?_
    refine RE.sqN ?_
    -- stops: cond
    refine RC.condF rfl (decide_eq_false (fun hh => hh hf)) ?_
    refine RC.skip ?_
    refine RE.bkN ?_
    refine RE.sqN ?_
    refine RC.region rfl ?_
    refine RL.q (Qt.mv rfl) ?_
    refine RL.q ((by first | exact Qt.addI rfl rfl (by dsimp only [inK]; omega) | exact Qt.add rfl rfl)) ?_
    refine RL.q (Qt.as rfl) ?_
    refine RL.nil ?_
    -- stops: next
    apply RE.lpN (i + 1)
    case hI => exact ⟨rfl, hS.pick [2, 1, 3, 4] (by decide) rfl, by omega⟩
    case hs => rw [hcs]; (repeat (first | exact Sub.nil | refine Sub.cons rfl ?_))
    case hm =>
      show (256 - (i + 1)).toNat < (256 - i).toNat
      omega
  · skip
    have h : ¬ i < 256 := of_decide_eq_false h
    have e : i = 256 := by omega
    subst e
    rw [cnt_full hrng]
    refine RC.exit ?_
    refine RE.sqX ?_
    refine RE.lpX ?_
    refine RE.bkX ?_
    refine RE.sqN ?_
    refine RC.seq ?_
    refine RC.region rfl ?_
    refine RL.q (Qt.mv rfl) ?_
    refine RL.q (Qt.mv rfl) ?_
    -- stops: op call
    refine RL.e (Ef.call hS (bqLen p _ l) rfl rfl Try.call13 [1] [0, 2, 3] (by decide) rfl rfl) ?_
    rintro v62 w ⟨ps, ⟨rfl, rfl⟩, hS⟩
    refine RL.q (Qt.eql rfl rfl) ?_
    refine RL.q (Qt.mv rfl) ?_
    -- stops: guard
    cases hok : topOk l with
    | true =>
      have hne : l ≠ [] := fun e => by rw [e] at hok; cases hok
      have hx := hi_top hq.nodup hrng hne
      have hrg := hx.1
      refine RL.q (Qt.mv rfl) ?_ (Runs.guard rfl rfl rfl (by simp))
      refine RL.q (Qt.mv rfl) ?_ (Runs.guard rfl rfl rfl (by simp))
      refine RL.q (Qt.ldA rfl (by first | exact hS.at 0 rfl | exact hS.at 1 rfl | exact hS.at 2 rfl | exact hS.at 3 rfl) (by first  | rfl) (by first | exact Nat.le_of_ble_eq_true rfl | omega | (simp only [Array.size_map]; omega))) ?_ (Runs.guard rfl rfl rfl (rfl))
      -- stops: op call
      refine RL.e (Ef.call hS (refHighest W _ hm) rfl rfl Try.call19 [] [0, 1, 2, 3] (by decide) rfl rfl) ?_ (Runs.guard rfl rfl rfl (rfl))
      rintro v68 w ⟨ps, ⟨y, rfl, hy, rfl⟩, hS⟩
      have hy := hy.uniq hx
      subst hy
      refine RL.q (Qt.mv rfl) ?_ (Runs.guard rfl rfl rfl (rfl))
      refine RL.q ((by first | exact Qt.cvtI rfl (by dsimp only [inK]; omega) | exact Qt.cvt rfl)) ?_ (Runs.guard rfl rfl rfl (rfl))
      refine RL.q (Qt.eql rfl rfl) ?_ (Runs.guard rfl rfl rfl (rfl))
      refine RL.q ((by first | exact Qt.pickT rfl (by assumption) rfl | exact Qt.pickF rfl (by assumption) rfl | exact Qt.pickT rfl rfl rfl | exact Qt.pickF rfl rfl rfl | exact Qt.pickT rfl (by simp) rfl)) ?_ (Runs.guard rfl rfl rfl (by simp))
      refine RL.q (Qt.mv rfl) ?_ (Runs.guard rfl rfl rfl (by simp))
      refine RL.s (Skips.guard rfl rfl rfl (by simp)) ?_
      refine RL.s (Skips.guard rfl rfl rfl (by simp)) ?_
      refine RL.s (Skips.guard rfl rfl rfl (by simp)) ?_
      refine RL.s (Skips.undef rfl rfl rfl) ?_
      refine RL.s (Skips.undef rfl rfl rfl) ?_
      refine RL.s (Skips.undef rfl rfl rfl) ?_
      refine RL.s (Skips.guard rfl rfl rfl (by simp)) ?_
      refine RL.q ((by first | exact Qt.pickT rfl (by assumption) rfl | exact Qt.pickF rfl (by assumption) rfl | exact Qt.pickT rfl rfl rfl | exact Qt.pickF rfl rfl rfl | exact Qt.pickT rfl (by simp) rfl)) ?_ (Runs.guard rfl rfl rfl (by simp))
      refine RL.q ((by first | exact Qt.pickT rfl (by assumption) rfl | exact Qt.pickF rfl (by assumption) rfl | exact Qt.pickT rfl rfl rfl | exact Qt.pickF rfl rfl rfl | exact Qt.pickT rfl (by simp) rfl)) ?_
      refine RL.q (Qt.as rfl) ?_
      refine RL.nil ?_
      refine RE.sqN ?_
      refine RC.ret ?_
      -- stops: end ret
      refine RE.retB rfl ⟨by simp [oneOf], rfl⟩ (hS.pick [2, 3] (by decide) rfl)
    | false =>
      have hl : l = [] := Classical.byContradiction fun hne => by
        have := (pop_facts hq.nodup hne).1
        rw [hok] at this; cases this
      have hx : IsHi (lvM l) (-1) := ⟨.inl rfl, fun v _ _ _ => by rw [hl]; simp [lvM, rIds]⟩
      refine RL.q (Qt.mv rfl) ?_ (Runs.guard rfl rfl rfl (by simp))
      refine RL.q (Qt.mv rfl) ?_ (Runs.guard rfl rfl rfl (by simp))
      refine RL.s (Skips.guard rfl rfl rfl (rfl)) ?_
      refine RL.s (Skips.guard rfl rfl rfl (rfl)) ?_
      refine RL.s (Skips.guard rfl rfl rfl (rfl)) ?_
      refine RL.s (Skips.guard rfl rfl rfl (rfl)) ?_
      refine RL.s (Skips.guard rfl rfl rfl (rfl)) ?_
      refine RL.q ((by first | exact Qt.pickT rfl (by assumption) rfl | exact Qt.pickF rfl (by assumption) rfl | exact Qt.pickT rfl rfl rfl | exact Qt.pickF rfl rfl rfl | exact Qt.pickT rfl (by simp) rfl)) ?_ (Runs.guard rfl rfl rfl (by simp))
      refine RL.q (Qt.mv rfl) ?_ (Runs.guard rfl rfl rfl (by simp))
      refine RL.q (Qt.mv rfl) ?_ (Runs.guard rfl rfl rfl (rfl))
      refine RL.q (Qt.not rfl) ?_ (Runs.guard rfl rfl rfl (rfl))
      refine RL.q (Qt.mv rfl) ?_ (Runs.guard rfl rfl rfl (rfl))
      refine RL.q (Qt.ldA rfl (by first | exact hS.at 0 rfl | exact hS.at 1 rfl | exact hS.at 2 rfl | exact hS.at 3 rfl) (by first  | rfl) (by first | exact Nat.le_of_ble_eq_true rfl | omega | (simp only [Array.size_map]; omega))) ?_ (Runs.guard rfl rfl rfl (rfl))
      -- stops: op call
      refine RL.e (Ef.call hS (refHighest W _ hm) rfl rfl Try.call19 [] [0, 1, 2, 3] (by decide) rfl rfl) ?_ (Runs.guard rfl rfl rfl (rfl))
      rintro v78 w ⟨ps, ⟨y, rfl, hy, rfl⟩, hS⟩
      have hy := hy.uniq hx
      subst hy
      refine RL.q (Qt.eql rfl rfl) ?_ (Runs.guard rfl rfl rfl (rfl))
      refine RL.q ((by first | exact Qt.pickT rfl (by assumption) rfl | exact Qt.pickF rfl (by assumption) rfl | exact Qt.pickT rfl rfl rfl | exact Qt.pickF rfl rfl rfl | exact Qt.pickT rfl (by simp) rfl)) ?_ (Runs.guard rfl rfl rfl (rfl))
      refine RL.q ((by first | exact Qt.pickT rfl (by assumption) rfl | exact Qt.pickF rfl (by assumption) rfl | exact Qt.pickT rfl rfl rfl | exact Qt.pickF rfl rfl rfl | exact Qt.pickT rfl (by simp) rfl)) ?_ (Runs.guard rfl rfl rfl (by simp))
      refine RL.q ((by first | exact Qt.pickT rfl (by assumption) rfl | exact Qt.pickF rfl (by assumption) rfl | exact Qt.pickT rfl rfl rfl | exact Qt.pickF rfl rfl rfl | exact Qt.pickT rfl (by simp) rfl)) ?_
      refine RL.q (Qt.as rfl) ?_
      refine RL.nil ?_
      refine RE.sqN ?_
      refine RC.ret ?_
      -- stops: end ret
      refine RE.retB rfl ⟨by simp [oneOf], rfl⟩ (hS.pick [2, 3] (by decide) rfl)
end Go.Proofs

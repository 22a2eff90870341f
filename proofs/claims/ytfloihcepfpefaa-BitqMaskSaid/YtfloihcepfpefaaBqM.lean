/- The law BitqMask answers true: a flag is set just where a level has one; the highest flag is the top's level. -/
import Derived.Test.YtfloihcepfpefaaBqG
namespace Go.Proofs
open Go Go.Gx
variable {oo : World}

def andB (w s : Int) : Int := IntKind.wrap .u64 (BitVec.ofInt (IntKind.bits .u64) (w.fdiv (2 ^ min s.toNat (IntKind.bits .u64))) &&& BitVec.ofInt (IntKind.bits .u64) 1).toNat
theorem andB_spec {w s : Int} (hw : inK .u64 w) (h0 : 0 ≤ s) (h1 : s < 64) : andB w s = if w.toNat.testBit s.toNat then 1 else 0 := by
  have e : andB w s = ((BitVec.ofInt 64 (w.fdiv (2 ^ min s.toNat 64)) &&& BitVec.ofInt 64 1).toNat : Int) := wrap_in (bv_in _)
  dsimp only [inK] at hw
  have hm : min s.toNat 64 = s.toNat := by omega
  rw [e, hm]
  have hd : w.fdiv (2 ^ s.toNat) = ((w.toNat / 2 ^ s.toNat : Nat) : Int) := by
    have hp : (0 : Int) ≤ 2 ^ s.toNat := by
      have : ((2 ^ s.toNat : Nat) : Int) = (2 : Int) ^ s.toNat := by simp
      rw [← this]; exact Int.natCast_nonneg _
    rw [Int.fdiv_eq_ediv_of_nonneg _ hp]
    have hw' : w = ((w.toNat : Nat) : Int) := by omega
    conv => lhs; rw [hw']
    simp
  rw [hd]
  have hlt : w.toNat / 2 ^ s.toNat < 2 ^ 64 := by
    have h64 : (2 : Nat) ^ 64 = 18446744073709551616 := by decide
    exact Nat.lt_of_le_of_lt (Nat.div_le_self _ _) (by omega)
  have h2 : (BitVec.ofInt 64 ((w.toNat / 2 ^ s.toNat : Nat) : Int) &&& BitVec.ofInt 64 1).toNat = w.toNat / 2 ^ s.toNat % 2 := by
    have ha : (BitVec.ofInt 64 ((w.toNat / 2 ^ s.toNat : Nat) : Int)).toNat = w.toNat / 2 ^ s.toNat := by
      rw [BitVec.toNat_ofInt]
      generalize w.toNat / 2 ^ s.toNat = q at hlt ⊢
      have h64 : (2 : Nat) ^ 64 = 18446744073709551616 := by decide
      omega
    have hb : (BitVec.ofInt 64 1).toNat = 1 := by decide
    rw [BitVec.toNat_and, ha, hb, Nat.and_one_is_mod]
  rw [h2, Nat.testBit_eq_decide_div_mod_eq]
  by_cases h : w.toNat / 2 ^ s.toNat % 2 = 1
  · simp [h]
  · have : w.toNat / 2 ^ s.toNat % 2 = 0 := by omega
    simp [this]

theorem flagAt {W : Int → Int} {m : Int → Bool} (h : MW W m) {v : Int} (h0 : 0 ≤ v) (h1 : v ≤ 255) : decide (andB (W (v / 64)) (v % 64) = 1) = m v := by
  rw [andB_spec (h.rng _ (by omega) (by omega)) (by omega) (by omega), h.bit v h0 h1]
  cases m v <;> simp

set_option maxHeartbeats 1000000 in
theorem refHighest (W : Int → Int) (m : Int → Bool) (hm : MW W m) : Ct Try.prog 19 #[wordsV W] [] (fun v ps => ∃ x, v = .int .i64 x ∧ IsHi m x ∧ ps = []) := by
  refine Ct.enter Try.func19 rfl (Nat.le_of_ble_eq_true rfl) ?_
  intro oo w R hS
  change RC _ _ _ _ _ _ [(0, _)] _
  refine RC.seq ?_
  refine RC.region rfl ?_
  refine RL.e (Ef.box hS rfl) ?_
  rintro _ w ⟨b1, rfl, hS⟩
  try simp (disch := omega) only [List.set_cons_zero, List.set_cons_succ, cells_int, cells_bool, cells_ptr, cells_slice, cells_func, cells_agg, cells_map, cells_int', cells_bool', cells_ptr', cells_slice', cells_agg', cells_map', cells_func', Nat.zero_add, wr, List.setIfInBounds_toArray] at hS
  refine RL.q (Qt.as rfl) ?_
  refine RL.nil ?_
  refine RE.sqN ?_
  refine RC.seq ?_
  refine RC.seq ?_
  refine RC.region rfl ?_
  refine RL.q (Qt.as rfl) ?_
  refine RL.nil ?_
  refine RE.sqN ?_
  refine RC.block ?_
  -- stops: loop
  refine RC.loop (γ := Int) (fun i E w' => E = [(3, .int .i64 i), (1, .pointer (some ⟨b1, 0, none⟩))] ∧ Sat oo w' [pt b1 (.cells #[.int .u64 (W 0), .int .u64 (W 1), .int .u64 (W 2), .int .u64 (W 3)] 33 (0, 0)), R] ∧ (-1 ≤ i ∧ i ≤ 255) ∧ ∀ v, i < v → 0 ≤ v → v ≤ 255 → m v = false) (fun i => (i + 1).toNat) 255 _ (by (repeat (first | exact Sub.nil | refine Sub.cons rfl ?_))) ⟨rfl, hS, by omega, fun v a b c => by omega⟩ ?_
  clear hS
  rintro i E w ⟨rfl, hS, hi, hz⟩
  refine RC.seq ?_
  refine RC.seq ?_
  refine RC.region rfl ?_
  refine RL.q (Qt.mv rfl) ?_
  refine RL.q (Qt.geq rfl rfl) ?_
  refine RL.nil ?_
  refine RE.sqN ?_
  -- stops: cond
  refine RC.cond rfl (fun h => ?_) (fun h => ?_)
  · skip
    have h : i ≥ 0 := of_decide_eq_true h
    refine RC.skip ?_
    refine RE.sqN ?_
    refine RC.seq ?_
    refine RC.block ?_
    refine RC.seq ?_
    refine RC.region rfl ?_
    refine RL.q (Qt.mv rfl) ?_
    refine RL.q ((by first | exact Qt.quoI rfl rfl (by dsimp only [inK]; omega) (by omega) | exact Qt.quo rfl rfl (by first | decide | omega))) ?_
    refine RL.q (Qt.ixA rfl rfl (by first | assumption | omega) (by first | assumption | omega)) ?_
    refine RL.q (Qt.ld rfl (by first | exact hS.at 0 rfl | exact hS.at 1 rfl) (by first | exact wordsAt W (show 0 ≤ i / 64 by omega) (show i / 64 < 4 by omega) | rfl)) ?_
    refine RL.q (Qt.mv rfl) ?_
    refine RL.q ((by first | exact Qt.remI rfl rfl (by omega) | exact Qt.rem rfl rfl (by first | decide | omega))) ?_
    refine RL.q (Qt.shr rfl rfl (by first | assumption | omega)) ?_
    refine RL.q (Qt.and rfl rfl) ?_
    refine RL.q (Qt.eql rfl rfl) ?_
    refine RL.nil ?_
    refine RE.sqN ?_
    -- stops: cond
    refine RC.cond rfl (fun h2 => ?_) (fun h2 => ?_)
    · refine RC.seq ?_
      refine RC.region rfl ?_
      refine RL.q (Qt.mv rfl) ?_
      refine RL.q (Qt.as rfl) ?_
      refine RL.nil ?_
      refine RE.sqN ?_
      refine RC.ret ?_
      refine RE.bkR ?_
      refine RE.sqR ?_
      refine RE.lpR ?_
      refine RE.bkR ?_
      refine RE.sqR ?_
      -- stops: end ret
      have h2 : m i = true := by rw [← flagAt hm h hi.2]; exact h2
      exact RE.retB rfl ⟨i, rfl, ⟨.inr ⟨h, hi.2, h2⟩, hz⟩, rfl⟩ (hS.pick [1] (by decide) rfl)
    · refine RC.skip ?_
      refine RE.bkN ?_
      refine RE.sqN ?_
      refine RC.region rfl ?_
      refine RL.q (Qt.mv rfl) ?_
      refine RL.q ((by first | exact Qt.subI rfl rfl (by dsimp only [inK]; omega) | exact Qt.sub rfl rfl)) ?_
      refine RL.q (Qt.as rfl) ?_
      refine RL.nil ?_
      -- stops: next
      have h2 : m i = false := by rw [← flagAt hm h hi.2]; exact h2
      apply RE.lpN (i - 1)
      case hI => exact ⟨rfl, hS, by omega, fun v a b c => by
        by_cases e : v = i
        · subst e; exact h2
        · exact hz v (by omega) b c⟩
      case hs => (repeat (first | exact Sub.nil | refine Sub.cons rfl ?_))
      case hm =>
        show (i - 1 + 1).toNat < (i + 1).toNat
        omega
  · refine RC.exit ?_
    refine RE.sqX ?_
    refine RE.lpX ?_
    refine RE.bkX ?_
    refine RE.sqN ?_
    refine RC.seq ?_
    refine RC.region rfl ?_
    refine RL.q (Qt.as rfl) ?_
    refine RL.nil ?_
    refine RE.sqN ?_
    refine RC.ret ?_
    -- stops: end ret
    have h : ¬ i ≥ 0 := of_decide_eq_false h
    have e : i = -1 := by omega
    subst e
    exact RE.retB rfl ⟨-1, rfl, ⟨.inl rfl, hz⟩, rfl⟩ (hS.pick [1] (by decide) rfl)
end Go.Proofs

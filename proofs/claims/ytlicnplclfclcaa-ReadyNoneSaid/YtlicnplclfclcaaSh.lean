/- The bit length of a number of 64 bits, as math/bits has it. -/
import Derived.Test.YtlicnplclfclcaaGxT
namespace Go.Proofs
open Go Go.Gx

theorem len8_facts (y : Int) (h0 : 0 ≤ y) (h1 : y ≤ 255) : (Lib.len8 y = (Lib.bitLen y.toNat : Int)) ∧ 0 ≤ Lib.len8 y ∧ Lib.len8 y ≤ 8 := by
  have a := Lib.len8_of y h0 h1
  have b := Lib.bitLen_le8' y h0 h1
  exact ⟨a, by omega, by omega⟩

set_option maxHeartbeats 4000000 in
theorem bitsLen64 (x : Int) (h0 : 0 ≤ x) (h1 : x ≤ 18446744073709551615) : Ct Try.prog 148 #[.int .u64 x] [] (fun v ps => v = .int .i64 (Lib.bitLen x.toNat) ∧ ps = []) := by
  refine Ct.enter Try.func148 rfl (Nat.le_of_ble_eq_true rfl) ?_
  intro oo w R hS
  change RC _ _ _ _ _ _ [(0, _)] _
  refine RC.seq ?_
  refine RC.region rfl ?_
  refine RL.q (Qt.as rfl) ?_
  refine RL.nil ?_
  refine RE.sqN ?_
  refine RC.seq ?_
  refine RC.seq ?_
  refine RC.region rfl ?_
  refine RL.q (Qt.mv rfl) ?_
  refine RL.q (Qt.geq rfl rfl) ?_
  refine RL.nil ?_
  refine RE.sqN ?_
  -- stops: cond
  refine RC.cond rfl (fun h1 => ?_) (fun h1 => ?_)
  · skip
    have h1 : x ≥ 4294967296 := of_decide_eq_true h1
    refine RC.seq ?_
    refine RC.region rfl ?_
    refine RL.q (Qt.mv rfl) ?_
    refine RL.q ((by first | exact Qt.shrD 4294967296 rfl rfl (by decide) (by decide) (by decide) | exact Qt.shr rfl rfl (by decide))) ?_
    refine RL.q (Qt.as rfl) ?_
    refine RL.nil ?_
    refine RE.sqN ?_
    refine RC.region rfl ?_
    refine RL.q (Qt.as rfl) ?_
    refine RL.nil ?_
    refine RE.sqN ?_
    refine RC.seq ?_
    refine RC.seq ?_
    refine RC.region rfl ?_
    refine RL.q (Qt.mv rfl) ?_
    refine RL.q (Qt.geq rfl rfl) ?_
    refine RL.nil ?_
    refine RE.sqN ?_
    -- stops: cond
    refine RC.cond rfl (fun h2 => ?_) (fun h2 => ?_)
    · skip
      have h2 : (x / 4294967296) ≥ 65536 := of_decide_eq_true h2
      refine RC.seq ?_
      refine RC.region rfl ?_
      refine RL.q (Qt.mv rfl) ?_
      refine RL.q ((by first | exact Qt.shrD 65536 rfl rfl (by decide) (by decide) (by decide) | exact Qt.shr rfl rfl (by decide))) ?_
      refine RL.q (Qt.as rfl) ?_
      refine RL.nil ?_
      refine RE.sqN ?_
      refine RC.region rfl ?_
      refine RL.q (Qt.mv rfl) ?_
      refine RL.q ((by first | exact Qt.addI rfl rfl (by dsimp only [inK]; omega) | exact Qt.add rfl rfl)) ?_
      refine RL.q (Qt.as rfl) ?_
      refine RL.nil ?_
      refine RE.sqN ?_
      refine RC.seq ?_
      refine RC.seq ?_
      refine RC.region rfl ?_
      refine RL.q (Qt.mv rfl) ?_
      refine RL.q (Qt.geq rfl rfl) ?_
      refine RL.nil ?_
      refine RE.sqN ?_
      -- stops: cond
      refine RC.cond rfl (fun h3 => ?_) (fun h3 => ?_)
      · skip
        have h3 : ((x / 4294967296) / 65536) ≥ 256 := of_decide_eq_true h3
        have hl := len8_facts (((x / 4294967296) / 65536) / 256) (by omega) (by omega)
        refine RC.seq ?_
        refine RC.region rfl ?_
        refine RL.q (Qt.mv rfl) ?_
        refine RL.q ((by first | exact Qt.shrD 256 rfl rfl (by decide) (by decide) (by decide) | exact Qt.shr rfl rfl (by decide))) ?_
        refine RL.q (Qt.as rfl) ?_
        refine RL.nil ?_
        refine RE.sqN ?_
        refine RC.region rfl ?_
        refine RL.q (Qt.mv rfl) ?_
        refine RL.q ((by first | exact Qt.addI rfl rfl (by dsimp only [inK]; omega) | exact Qt.add rfl rfl)) ?_
        refine RL.q (Qt.as rfl) ?_
        refine RL.nil ?_
        refine RE.sqN ?_
        refine RC.seq ?_
        refine RC.region rfl ?_
        refine RL.q (Qt.mv rfl) ?_
        refine RL.q (Qt.mv rfl) ?_
        refine RL.q ((by first | exact Qt.cvtI rfl (by dsimp only [inK]; omega) | exact Qt.cvt rfl)) ?_
        refine RL.q (Qt.ixL8 (by kernel_rfl) rfl (by first | assumption | omega | (dsimp only; omega)) (by first | assumption | omega | (dsimp only; omega))) ?_
        refine RL.q ((by first | exact Qt.cvtI rfl (by dsimp only [inK]; omega) | exact Qt.cvt rfl)) ?_
        refine RL.q ((by first | exact Qt.addI rfl rfl (by dsimp only [inK]; omega) | exact Qt.add rfl rfl)) ?_
        refine RL.q (Qt.as rfl) ?_
        refine RL.nil ?_
        refine RE.sqN ?_
        refine RC.ret ?_
        -- stops: end ret
        refine RE.retB rfl ⟨?_, rfl⟩ hS
        have e0 := Lib.bitLen_shift32 (x.toNat) (by omega) (by omega)
        have e1 := Lib.bitLen_shift16 (x.toNat / 4294967296) (by omega) (by omega)
        have e2 := Lib.bitLen_shift8 (x.toNat / 4294967296 / 65536) (by omega) (by omega)
        have ez : ((((x / 4294967296) / 65536) / 256)).toNat = x.toNat / 4294967296 / 65536 / 256 := by omega
        rw [ez] at hl
        simp only [oneOf, Value.int.injEq, true_and]
        omega
      · skip
        have h3 : ¬ ((x / 4294967296) / 65536) ≥ 256 := of_decide_eq_false h3
        have hl := len8_facts ((x / 4294967296) / 65536) (by omega) (by omega)
        refine RC.skip ?_
        refine RE.sqN ?_
        refine RC.seq ?_
        refine RC.region rfl ?_
        refine RL.q (Qt.mv rfl) ?_
        refine RL.q (Qt.mv rfl) ?_
        refine RL.q ((by first | exact Qt.cvtI rfl (by dsimp only [inK]; omega) | exact Qt.cvt rfl)) ?_
        refine RL.q (Qt.ixL8 (by kernel_rfl) rfl (by first | assumption | omega | (dsimp only; omega)) (by first | assumption | omega | (dsimp only; omega))) ?_
        refine RL.q ((by first | exact Qt.cvtI rfl (by dsimp only [inK]; omega) | exact Qt.cvt rfl)) ?_
        refine RL.q ((by first | exact Qt.addI rfl rfl (by dsimp only [inK]; omega) | exact Qt.add rfl rfl)) ?_
        refine RL.q (Qt.as rfl) ?_
        refine RL.nil ?_
        refine RE.sqN ?_
        refine RC.ret ?_
        -- stops: end ret
        refine RE.retB rfl ⟨?_, rfl⟩ hS
        have e0 := Lib.bitLen_shift32 (x.toNat) (by omega) (by omega)
        have e1 := Lib.bitLen_shift16 (x.toNat / 4294967296) (by omega) (by omega)
        have ez : (((x / 4294967296) / 65536)).toNat = x.toNat / 4294967296 / 65536 := by omega
        rw [ez] at hl
        simp only [oneOf, Value.int.injEq, true_and]
        omega
    · skip
      have h2 : ¬ (x / 4294967296) ≥ 65536 := of_decide_eq_false h2
      refine RC.skip ?_
      refine RE.sqN ?_
      refine RC.seq ?_
      refine RC.seq ?_
      refine RC.region rfl ?_
      refine RL.q (Qt.mv rfl) ?_
      refine RL.q (Qt.geq rfl rfl) ?_
      refine RL.nil ?_
      refine RE.sqN ?_
      -- stops: cond
      refine RC.cond rfl (fun h3 => ?_) (fun h3 => ?_)
      · skip
        have h3 : (x / 4294967296) ≥ 256 := of_decide_eq_true h3
        have hl := len8_facts ((x / 4294967296) / 256) (by omega) (by omega)
        refine RC.seq ?_
        refine RC.region rfl ?_
        refine RL.q (Qt.mv rfl) ?_
        refine RL.q ((by first | exact Qt.shrD 256 rfl rfl (by decide) (by decide) (by decide) | exact Qt.shr rfl rfl (by decide))) ?_
        refine RL.q (Qt.as rfl) ?_
        refine RL.nil ?_
        refine RE.sqN ?_
        refine RC.region rfl ?_
        refine RL.q (Qt.mv rfl) ?_
        refine RL.q ((by first | exact Qt.addI rfl rfl (by dsimp only [inK]; omega) | exact Qt.add rfl rfl)) ?_
        refine RL.q (Qt.as rfl) ?_
        refine RL.nil ?_
        refine RE.sqN ?_
        refine RC.seq ?_
        refine RC.region rfl ?_
        refine RL.q (Qt.mv rfl) ?_
        refine RL.q (Qt.mv rfl) ?_
        refine RL.q ((by first | exact Qt.cvtI rfl (by dsimp only [inK]; omega) | exact Qt.cvt rfl)) ?_
        refine RL.q (Qt.ixL8 (by kernel_rfl) rfl (by first | assumption | omega | (dsimp only; omega)) (by first | assumption | omega | (dsimp only; omega))) ?_
        refine RL.q ((by first | exact Qt.cvtI rfl (by dsimp only [inK]; omega) | exact Qt.cvt rfl)) ?_
        refine RL.q ((by first | exact Qt.addI rfl rfl (by dsimp only [inK]; omega) | exact Qt.add rfl rfl)) ?_
        refine RL.q (Qt.as rfl) ?_
        refine RL.nil ?_
        refine RE.sqN ?_
        refine RC.ret ?_
        -- stops: end ret
        refine RE.retB rfl ⟨?_, rfl⟩ hS
        have e0 := Lib.bitLen_shift32 (x.toNat) (by omega) (by omega)
        have e2 := Lib.bitLen_shift8 (x.toNat / 4294967296) (by omega) (by omega)
        have ez : (((x / 4294967296) / 256)).toNat = x.toNat / 4294967296 / 256 := by omega
        rw [ez] at hl
        simp only [oneOf, Value.int.injEq, true_and]
        omega
      · skip
        have h3 : ¬ (x / 4294967296) ≥ 256 := of_decide_eq_false h3
        have hl := len8_facts (x / 4294967296) (by omega) (by omega)
        refine RC.skip ?_
        refine RE.sqN ?_
        refine RC.seq ?_
        refine RC.region rfl ?_
        refine RL.q (Qt.mv rfl) ?_
        refine RL.q (Qt.mv rfl) ?_
        refine RL.q ((by first | exact Qt.cvtI rfl (by dsimp only [inK]; omega) | exact Qt.cvt rfl)) ?_
        refine RL.q (Qt.ixL8 (by kernel_rfl) rfl (by first | assumption | omega | (dsimp only; omega)) (by first | assumption | omega | (dsimp only; omega))) ?_
        refine RL.q ((by first | exact Qt.cvtI rfl (by dsimp only [inK]; omega) | exact Qt.cvt rfl)) ?_
        refine RL.q ((by first | exact Qt.addI rfl rfl (by dsimp only [inK]; omega) | exact Qt.add rfl rfl)) ?_
        refine RL.q (Qt.as rfl) ?_
        refine RL.nil ?_
        refine RE.sqN ?_
        refine RC.ret ?_
        -- stops: end ret
        refine RE.retB rfl ⟨?_, rfl⟩ hS
        have e0 := Lib.bitLen_shift32 (x.toNat) (by omega) (by omega)
        have ez : ((x / 4294967296)).toNat = x.toNat / 4294967296 := by omega
        rw [ez] at hl
        simp only [oneOf, Value.int.injEq, true_and]
        omega
  · skip
    have h1 : ¬ x ≥ 4294967296 := of_decide_eq_false h1
    refine RC.skip ?_
    refine RE.sqN ?_
    refine RC.seq ?_
    refine RC.seq ?_
    refine RC.region rfl ?_
    refine RL.q (Qt.mv rfl) ?_
    refine RL.q (Qt.geq rfl rfl) ?_
    refine RL.nil ?_
    refine RE.sqN ?_
    -- stops: cond
    refine RC.cond rfl (fun h2 => ?_) (fun h2 => ?_)
    · skip
      have h2 : x ≥ 65536 := of_decide_eq_true h2
      refine RC.seq ?_
      refine RC.region rfl ?_
      refine RL.q (Qt.mv rfl) ?_
      refine RL.q ((by first | exact Qt.shrD 65536 rfl rfl (by decide) (by decide) (by decide) | exact Qt.shr rfl rfl (by decide))) ?_
      refine RL.q (Qt.as rfl) ?_
      refine RL.nil ?_
      refine RE.sqN ?_
      refine RC.region rfl ?_
      refine RL.q (Qt.mv rfl) ?_
      refine RL.q ((by first | exact Qt.addI rfl rfl (by dsimp only [inK]; omega) | exact Qt.add rfl rfl)) ?_
      refine RL.q (Qt.as rfl) ?_
      refine RL.nil ?_
      refine RE.sqN ?_
      refine RC.seq ?_
      refine RC.seq ?_
      refine RC.region rfl ?_
      refine RL.q (Qt.mv rfl) ?_
      refine RL.q (Qt.geq rfl rfl) ?_
      refine RL.nil ?_
      refine RE.sqN ?_
      -- stops: cond
      refine RC.cond rfl (fun h3 => ?_) (fun h3 => ?_)
      · skip
        have h3 : (x / 65536) ≥ 256 := of_decide_eq_true h3
        have hl := len8_facts ((x / 65536) / 256) (by omega) (by omega)
        refine RC.seq ?_
        refine RC.region rfl ?_
        refine RL.q (Qt.mv rfl) ?_
        refine RL.q ((by first | exact Qt.shrD 256 rfl rfl (by decide) (by decide) (by decide) | exact Qt.shr rfl rfl (by decide))) ?_
        refine RL.q (Qt.as rfl) ?_
        refine RL.nil ?_
        refine RE.sqN ?_
        refine RC.region rfl ?_
        refine RL.q (Qt.mv rfl) ?_
        refine RL.q ((by first | exact Qt.addI rfl rfl (by dsimp only [inK]; omega) | exact Qt.add rfl rfl)) ?_
        refine RL.q (Qt.as rfl) ?_
        refine RL.nil ?_
        refine RE.sqN ?_
        refine RC.seq ?_
        refine RC.region rfl ?_
        refine RL.q (Qt.mv rfl) ?_
        refine RL.q (Qt.mv rfl) ?_
        refine RL.q ((by first | exact Qt.cvtI rfl (by dsimp only [inK]; omega) | exact Qt.cvt rfl)) ?_
        refine RL.q (Qt.ixL8 (by kernel_rfl) rfl (by first | assumption | omega | (dsimp only; omega)) (by first | assumption | omega | (dsimp only; omega))) ?_
        refine RL.q ((by first | exact Qt.cvtI rfl (by dsimp only [inK]; omega) | exact Qt.cvt rfl)) ?_
        refine RL.q ((by first | exact Qt.addI rfl rfl (by dsimp only [inK]; omega) | exact Qt.add rfl rfl)) ?_
        refine RL.q (Qt.as rfl) ?_
        refine RL.nil ?_
        refine RE.sqN ?_
        refine RC.ret ?_
        -- stops: end ret
        refine RE.retB rfl ⟨?_, rfl⟩ hS
        have e1 := Lib.bitLen_shift16 (x.toNat) (by omega) (by omega)
        have e2 := Lib.bitLen_shift8 (x.toNat / 65536) (by omega) (by omega)
        have ez : (((x / 65536) / 256)).toNat = x.toNat / 65536 / 256 := by omega
        rw [ez] at hl
        simp only [oneOf, Value.int.injEq, true_and]
        omega
      · skip
        have h3 : ¬ (x / 65536) ≥ 256 := of_decide_eq_false h3
        have hl := len8_facts (x / 65536) (by omega) (by omega)
        refine RC.skip ?_
        refine RE.sqN ?_
        refine RC.seq ?_
        refine RC.region rfl ?_
        refine RL.q (Qt.mv rfl) ?_
        refine RL.q (Qt.mv rfl) ?_
        refine RL.q ((by first | exact Qt.cvtI rfl (by dsimp only [inK]; omega) | exact Qt.cvt rfl)) ?_
        refine RL.q (Qt.ixL8 (by kernel_rfl) rfl (by first | assumption | omega | (dsimp only; omega)) (by first | assumption | omega | (dsimp only; omega))) ?_
        refine RL.q ((by first | exact Qt.cvtI rfl (by dsimp only [inK]; omega) | exact Qt.cvt rfl)) ?_
        refine RL.q ((by first | exact Qt.addI rfl rfl (by dsimp only [inK]; omega) | exact Qt.add rfl rfl)) ?_
        refine RL.q (Qt.as rfl) ?_
        refine RL.nil ?_
        refine RE.sqN ?_
        refine RC.ret ?_
        -- stops: end ret
        refine RE.retB rfl ⟨?_, rfl⟩ hS
        have e1 := Lib.bitLen_shift16 (x.toNat) (by omega) (by omega)
        have ez : ((x / 65536)).toNat = x.toNat / 65536 := by omega
        rw [ez] at hl
        simp only [oneOf, Value.int.injEq, true_and]
        omega
    · skip
      have h2 : ¬ x ≥ 65536 := of_decide_eq_false h2
      refine RC.skip ?_
      refine RE.sqN ?_
      refine RC.seq ?_
      refine RC.seq ?_
      refine RC.region rfl ?_
      refine RL.q (Qt.mv rfl) ?_
      refine RL.q (Qt.geq rfl rfl) ?_
      refine RL.nil ?_
      refine RE.sqN ?_
      -- stops: cond
      refine RC.cond rfl (fun h3 => ?_) (fun h3 => ?_)
      · skip
        have h3 : x ≥ 256 := of_decide_eq_true h3
        have hl := len8_facts (x / 256) (by omega) (by omega)
        refine RC.seq ?_
        refine RC.region rfl ?_
        refine RL.q (Qt.mv rfl) ?_
        refine RL.q ((by first | exact Qt.shrD 256 rfl rfl (by decide) (by decide) (by decide) | exact Qt.shr rfl rfl (by decide))) ?_
        refine RL.q (Qt.as rfl) ?_
        refine RL.nil ?_
        refine RE.sqN ?_
        refine RC.region rfl ?_
        refine RL.q (Qt.mv rfl) ?_
        refine RL.q ((by first | exact Qt.addI rfl rfl (by dsimp only [inK]; omega) | exact Qt.add rfl rfl)) ?_
        refine RL.q (Qt.as rfl) ?_
        refine RL.nil ?_
        refine RE.sqN ?_
        refine RC.seq ?_
        refine RC.region rfl ?_
        refine RL.q (Qt.mv rfl) ?_
        refine RL.q (Qt.mv rfl) ?_
        refine RL.q ((by first | exact Qt.cvtI rfl (by dsimp only [inK]; omega) | exact Qt.cvt rfl)) ?_
        refine RL.q (Qt.ixL8 (by kernel_rfl) rfl (by first | assumption | omega | (dsimp only; omega)) (by first | assumption | omega | (dsimp only; omega))) ?_
        refine RL.q ((by first | exact Qt.cvtI rfl (by dsimp only [inK]; omega) | exact Qt.cvt rfl)) ?_
        refine RL.q ((by first | exact Qt.addI rfl rfl (by dsimp only [inK]; omega) | exact Qt.add rfl rfl)) ?_
        refine RL.q (Qt.as rfl) ?_
        refine RL.nil ?_
        refine RE.sqN ?_
        refine RC.ret ?_
        -- stops: end ret
        refine RE.retB rfl ⟨?_, rfl⟩ hS
        have e2 := Lib.bitLen_shift8 (x.toNat) (by omega) (by omega)
        have ez : ((x / 256)).toNat = x.toNat / 256 := by omega
        rw [ez] at hl
        simp only [oneOf, Value.int.injEq, true_and]
        omega
      · skip
        have h3 : ¬ x ≥ 256 := of_decide_eq_false h3
        have hl := len8_facts x (by omega) (by omega)
        refine RC.skip ?_
        refine RE.sqN ?_
        refine RC.seq ?_
        refine RC.region rfl ?_
        refine RL.q (Qt.mv rfl) ?_
        refine RL.q (Qt.mv rfl) ?_
        refine RL.q ((by first | exact Qt.cvtI rfl (by dsimp only [inK]; omega) | exact Qt.cvt rfl)) ?_
        refine RL.q (Qt.ixL8 (by kernel_rfl) rfl (by first | assumption | omega | (dsimp only; omega)) (by first | assumption | omega | (dsimp only; omega))) ?_
        refine RL.q ((by first | exact Qt.cvtI rfl (by dsimp only [inK]; omega) | exact Qt.cvt rfl)) ?_
        refine RL.q ((by first | exact Qt.addI rfl rfl (by dsimp only [inK]; omega) | exact Qt.add rfl rfl)) ?_
        refine RL.q (Qt.as rfl) ?_
        refine RL.nil ?_
        refine RE.sqN ?_
        refine RC.ret ?_
        -- stops: end ret
        refine RE.retB rfl ⟨?_, rfl⟩ hS
        have ez : (x).toNat = x.toNat := by omega
        rw [ez] at hl
        simp only [oneOf, Value.int.injEq, true_and]
        omega
end Go.Proofs

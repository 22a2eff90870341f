/- The queue of levels: Fork and List. -/
import Derived.Test.YtlicnplclfclcaaBq3
namespace Go.Proofs
open Go Go.Gx

theorem LA.copy {ahead behind lv : Int → Int} {there : Int → Bool} {n : Nat} {c c' : Array Value} (h : LA ahead behind lv there n c) (hs : n * 4 ≤ c'.size) (he : c'.toList.take (n * 4) = c.toList.take (n * 4)) : LA ahead behind lv there n c' := by
  have hg : ∀ k, k < n * 4 → c'.toList[k]? = c.toList[k]? := fun k hk => by
    have : (c'.toList.take (n * 4))[k]? = (c.toList.take (n * 4))[k]? := by rw [he]
    rwa [List.getElem?_take_of_lt hk, List.getElem?_take_of_lt hk] at this
  exact ⟨hs, fun i a b => by rw [hg _ (by omega)]; exact h.ahead i a b, fun i a b => by rw [hg _ (by omega)]; exact h.behind i a b, fun i a b => by rw [hg _ (by omega)]; exact h.lv i a b, fun i a b => by rw [hg _ (by omega)]; exact h.there i a b⟩
theorem LA.plain {ahead behind lv : Int → Int} {there : Int → Bool} {n : Nat} {c : Array Value} (h : LA ahead behind lv there n c) : (List.take (n * 4) (List.drop 0 c.toList)).all Value.plain = true := by
  rw [List.all_eq_true]
  intro x hx
  obtain ⟨k, hk, rfl⟩ := List.getElem_of_mem hx
  simp only [List.drop_zero, List.length_take] at hk
  have h1 : k / 4 < n := by omega
  have e : (List.take (n * 4) (List.drop 0 c.toList))[k]? = c.toList[k]? := by rw [List.drop_zero, List.getElem?_take_of_lt (by omega)]
  have g : (List.take (n * 4) (List.drop 0 c.toList))[k]? = some (List.take (n * 4) (List.drop 0 c.toList))[k] := List.getElem?_eq_getElem _
  rw [g] at e
  rcases (show k % 4 = 0 ∨ k % 4 = 1 ∨ k % 4 = 2 ∨ k % 4 = 3 by omega) with h2 | h2 | h2 | h2
  · have := h.ahead (k / 4 : Nat) (by omega) (by omega)
    rw [show 0 + ((k / 4 : Nat) : Int).toNat * 4 + 0 = k by omega, ← e] at this
    rw [Option.some.inj this]; rfl
  · have := h.behind (k / 4 : Nat) (by omega) (by omega)
    rw [show 0 + ((k / 4 : Nat) : Int).toNat * 4 + 1 = k by omega, ← e] at this
    rw [Option.some.inj this]; rfl
  · have := h.lv (k / 4 : Nat) (by omega) (by omega)
    rw [show 0 + ((k / 4 : Nat) : Int).toNat * 4 + 2 = k by omega, ← e] at this
    rw [Option.some.inj this]; rfl
  · have := h.there (k / 4 : Nat) (by omega) (by omega)
    rw [show 0 + ((k / 4 : Nat) : Int).toNat * 4 + 3 = k by omega, ← e] at this
    rw [Option.some.inj this]; rfl
theorem QC.plain {first last W : Int → Int} {many : Int} {s : Value} {c : Array Value} (h : QC first last W many s c) (hs : Value.plain s = true) : c.toList.all Value.plain = true := by
  rw [List.all_eq_true]
  intro x hx
  obtain ⟨k, hk, rfl⟩ := List.getElem_of_mem hx
  have hz := h.size
  simp only [Array.length_toList] at hk
  have g : c.toList[k]? = some c.toList[k] := by simp
  by_cases h0 : k = 0
  · subst h0
    have := h.links
    rw [g] at this
    rw [Option.some.inj this]; exact hs
  · by_cases h1 : k ≤ 256
    · have := h.first (k - 1 : Nat) (by omega) (by omega)
      rw [show 0 + 1 + ((k - 1 : Nat) : Int).toNat * 1 = k by omega, g] at this
      rw [Option.some.inj this]; rfl
    · by_cases h2 : k ≤ 512
      · have := h.last (k - 257 : Nat) (by omega) (by omega)
        rw [show 0 + 257 + ((k - 257 : Nat) : Int).toNat * 1 = k by omega, g] at this
        rw [Option.some.inj this]; rfl
      · by_cases h3 : k ≤ 516
        · have := h.mask (k - 513 : Nat) (by omega) (by omega)
          rw [show 0 + 513 + ((k - 513 : Nat) : Int).toNat * 1 = k by omega, g] at this
          rw [Option.some.inj this]; rfl
        · have := h.many
          have e : k = 517 := by omega
          subst e
          rw [g] at this
          rw [Option.some.inj this]; rfl

set_option maxHeartbeats 1000000 in
theorem bqClone {ahead behind lv : Int → Int} {there : Int → Bool} {n : Nat} {cl : Array Value} (h : LA ahead behind lv there n cl) (bl cap : Nat) (h0 : 1 ≤ n) (h1 : n ≤ 1024) : Ct Try.prog 138 #[.slice (some ⟨bl, 0, none⟩) n cap] [pt bl (.cells cl 171 (0, 0))]
    (fun v ps => ∃ b' cap' cl', v = .slice (some ⟨b', 0, none⟩) n cap' ∧ LA ahead behind lv there n cl' ∧ ps = [pt b' (.cells cl' 171 (0, 0)), pt bl (.cells cl 171 (0, 0))]) := by
  refine Ct.enter Try.func138 rfl (Nat.le_of_ble_eq_true rfl) ?_
  intro oo w R hS
  change RC _ _ _ _ _ _ [(0, _)] _
  have hsz := h.size
  refine RC.seq ?_
  refine RC.region rfl ?_
  refine RL.q (Qt.as rfl) ?_
  refine RL.nil ?_
  refine RE.sqN ?_
  refine RC.seq ?_
  refine RC.seq ?_
  refine RC.region rfl ?_
  refine RL.q (Qt.mv rfl) ?_
  refine RL.q (Qt.eqlS rfl rfl) ?_
  refine RL.nil ?_
  refine RE.sqN ?_
  -- stops: cond
  refine RC.condF rfl (rfl) ?_
  refine RC.skip ?_
  refine RE.sqN ?_
  refine RC.seq ?_
  refine RC.region rfl ?_
  refine RL.e (Ef.bsl0 hS) ?_
  rintro _ w ⟨b5, rfl, hS⟩
  try simp (disch := omega) only [List.set_cons_zero, List.set_cons_succ, cells_int, cells_bool, cells_ptr, cells_slice, cells_func, cells_agg, cells_map, cells_int', cells_bool', cells_ptr', cells_slice', cells_agg', cells_map', cells_func', Nat.zero_add, wr, List.setIfInBounds_toArray] at hS
  refine RL.q (Qt.mv rfl) ?_
  first | refine RL.e (Ef.app (k := 0) hS rfl rfl rfl (Src.pt (hS.get 0 rfl) (by first | exact Nat.le_of_ble_eq_true rfl | omega | (simp only [Array.size_map]; omega))) (by first | assumption | omega | (dsimp only; omega)) h.plain) ?_ | refine RL.e (Ef.app (k := 0) hS rfl rfl rfl (Src.pt (hS.get 1 rfl) (by first | exact Nat.le_of_ble_eq_true rfl | omega | (simp only [Array.size_map]; omega))) (by first | assumption | omega | (dsimp only; omega)) h.plain) ?_ | refine RL.e (Ef.app (k := 0) hS rfl rfl rfl (Src.pt (hS.get 2 rfl) (by first | exact Nat.le_of_ble_eq_true rfl | omega | (simp only [Array.size_map]; omega))) (by first | assumption | omega | (dsimp only; omega)) h.plain) ?_ | refine RL.e (Ef.app (k := 0) hS rfl rfl rfl (Src.own hS 0 rfl) (by first | assumption | omega | (dsimp only; omega)) h.plain) ?_ | refine RL.e (Ef.app (k := 0) hS rfl rfl rfl (Src.own hS 1 rfl) (by first | assumption | omega | (dsimp only; omega)) h.plain) ?_ | refine RL.e (Ef.app (k := 0) hS rfl rfl rfl (Src.own hS 2 rfl) (by first | assumption | omega | (dsimp only; omega)) h.plain) ?_ | refine RL.e (Ef.app (k := 1) hS rfl rfl rfl (Src.pt (hS.get 0 rfl) (by first | exact Nat.le_of_ble_eq_true rfl | omega | (simp only [Array.size_map]; omega))) (by first | assumption | omega | (dsimp only; omega)) h.plain) ?_ | refine RL.e (Ef.app (k := 1) hS rfl rfl rfl (Src.pt (hS.get 1 rfl) (by first | exact Nat.le_of_ble_eq_true rfl | omega | (simp only [Array.size_map]; omega))) (by first | assumption | omega | (dsimp only; omega)) h.plain) ?_ | refine RL.e (Ef.app (k := 1) hS rfl rfl rfl (Src.pt (hS.get 2 rfl) (by first | exact Nat.le_of_ble_eq_true rfl | omega | (simp only [Array.size_map]; omega))) (by first | assumption | omega | (dsimp only; omega)) h.plain) ?_ | refine RL.e (Ef.app (k := 1) hS rfl rfl rfl (Src.own hS 0 rfl) (by first | assumption | omega | (dsimp only; omega)) h.plain) ?_ | refine RL.e (Ef.app (k := 1) hS rfl rfl rfl (Src.own hS 1 rfl) (by first | assumption | omega | (dsimp only; omega)) h.plain) ?_ | refine RL.e (Ef.app (k := 1) hS rfl rfl rfl (Src.own hS 2 rfl) (by first | assumption | omega | (dsimp only; omega)) h.plain) ?_ | refine RL.e (Ef.app (k := 2) hS rfl rfl rfl (Src.pt (hS.get 0 rfl) (by first | exact Nat.le_of_ble_eq_true rfl | omega | (simp only [Array.size_map]; omega))) (by first | assumption | omega | (dsimp only; omega)) h.plain) ?_ | refine RL.e (Ef.app (k := 2) hS rfl rfl rfl (Src.pt (hS.get 1 rfl) (by first | exact Nat.le_of_ble_eq_true rfl | omega | (simp only [Array.size_map]; omega))) (by first | assumption | omega | (dsimp only; omega)) h.plain) ?_ | refine RL.e (Ef.app (k := 2) hS rfl rfl rfl (Src.pt (hS.get 2 rfl) (by first | exact Nat.le_of_ble_eq_true rfl | omega | (simp only [Array.size_map]; omega))) (by first | assumption | omega | (dsimp only; omega)) h.plain) ?_ | refine RL.e (Ef.app (k := 2) hS rfl rfl rfl (Src.own hS 0 rfl) (by first | assumption | omega | (dsimp only; omega)) h.plain) ?_ | refine RL.e (Ef.app (k := 2) hS rfl rfl rfl (Src.own hS 1 rfl) (by first | assumption | omega | (dsimp only; omega)) h.plain) ?_ | refine RL.e (Ef.app (k := 2) hS rfl rfl rfl (Src.own hS 2 rfl) (by first | assumption | omega | (dsimp only; omega)) h.plain) ?_
  intro s7 w hS
  simp only [List.set_cons_zero, List.drop_zero] at hS
  first | (obtain ⟨sp7, cp7, rfl⟩ := hS.ownForm 0 rfl) | (obtain ⟨sp7, cp7, rfl⟩ := hS.ownForm 1 rfl) | (obtain ⟨sp7, cp7, rfl⟩ := hS.ownForm 2 rfl)
  refine RL.q (Qt.as rfl) ?_
  refine RL.nil ?_
  refine RE.sqN ?_
  refine RC.ret ?_
  -- stops: end ret
  obtain ⟨b, cap', c', hv, hc1, hc2, hc3, hc4, hS⟩ := hS.ownPos 0 rfl (by omega)
  cases hv
  simp only [Nat.zero_add, List.nil_append] at hc3 hc4
  exact RE.retB rfl ⟨_, cp7, c', by simp only [oneOf, Nat.zero_add], h.copy (by omega) hc4, rfl⟩ (hS.pick [0, 1, 2] (by decide) rfl)

theorem extract_all {c : Array Value} {n : Nat} (h : c.size = n) : c.extract 0 (0 + n) = c := by
  subst h; simp

set_option maxHeartbeats 1000000 in
theorem bqFork (p : Value) (n : Nat) (l : List RItem) : Ct Try.prog 109 #[p] [qO p n l] (fun v ps => ps = [qO v n l, qO p n l]) := by
  refine Ct.enter Try.func109 rfl (Nat.le_of_ble_eq_true rfl) ?_
  intro oo w R hS
  change RC _ _ _ _ _ _ [(0, _)] _
  obtain ⟨q, W, b, bl, cap, c, cl, rfl, hq, hS⟩ := qO_open hS
  have hsz := hq.qc.size
  refine RC.seq ?_
  refine RC.region rfl ?_
  refine RL.q (Qt.as rfl) ?_
  refine RL.nil ?_
  refine RE.sqN ?_
  refine RC.seq ?_
  refine RC.seq ?_
  refine RC.region rfl ?_
  refine RL.q (Qt.mv rfl) ?_
  refine RL.q (Qt.eqlN rfl rfl) ?_
  refine RL.nil ?_
  refine RE.sqN ?_
  -- stops: cond
  refine RC.condF rfl (rfl) ?_
  refine RC.skip ?_
  refine RE.sqN ?_
  refine RC.seq ?_
  refine RC.region rfl ?_
  refine RL.q (Qt.mv rfl) ?_
  refine RL.q (Qt.nil rfl) ?_
  refine RL.q (Qt.ldA rfl (by first | exact hS.at 0 rfl | exact hS.at 1 rfl | exact hS.at 2 rfl) (by first | exact extract_all hsz | rfl) (by first | omega | (simp only [zrun_size]; exact Nat.le_of_ble_eq_true rfl))) ?_
  refine RL.e (Ef.alloc hS) ?_
  rintro _ w ⟨b3, rfl, hS⟩
  try simp (disch := omega) only [cells_agg'] at hS
  first | refine RL.e0 (Ef.st hS 0 rfl rfl rfl hsz (hq.qc.plain rfl) (by first | omega | (simp only [zrun_size]; exact Nat.le_of_ble_eq_true rfl))) ?_ | refine RL.e0 (Ef.st hS 1 rfl rfl rfl hsz (hq.qc.plain rfl) (by first | omega | (simp only [zrun_size]; exact Nat.le_of_ble_eq_true rfl))) ?_ | refine RL.e0 (Ef.st hS 2 rfl rfl rfl hsz (hq.qc.plain rfl) (by first | omega | (simp only [zrun_size]; exact Nat.le_of_ble_eq_true rfl))) ?_ | refine RL.e0 (Ef.st hS 3 rfl rfl rfl hsz (hq.qc.plain rfl) (by first | omega | (simp only [zrun_size]; exact Nat.le_of_ble_eq_true rfl))) ?_
  intro _ w hS
  simp (disch := omega) only [List.set_cons_zero, cells_agg', List.set_cons_zero] at hS
  refine RL.nil ?_
  refine RE.sqN ?_
  refine RC.seq ?_
  refine RC.region rfl ?_
  refine RL.q (Qt.mv rfl) ?_
  refine RL.q (Qt.nil rfl) ?_
  refine RL.q (Qt.fld rfl) ?_
  refine RL.q (Qt.ld rfl (by first | exact hS.at 0 rfl | exact hS.at 1 rfl | exact hS.at 2 rfl | exact hS.at 3 rfl) (by first | exact hq.qc.links | rfl)) ?_
  -- stops: op call
  rw [wr_all _ _ (by rw [zrun_size]; exact hsz.symm), Array.toArray_toList] at hS
  refine RL.e (Ef.call hS (bqClone hq.la bl cap hq.pos hq.max) rfl rfl Try.call138 [2] [0, 1, 3] (by decide) rfl rfl) ?_
  rintro v13 w ⟨ps, ⟨b', cap', cl', rfl, hla, rfl⟩, hS⟩
  refine RL.q (Qt.fld rfl) ?_
  first | refine RL.e0 (Ef.st hS 0 rfl rfl rfl (by rfl) (by rfl) (by first | omega | exact Nat.le_of_ble_eq_true rfl)) ?_ | refine RL.e0 (Ef.st hS 1 rfl rfl rfl (by rfl) (by rfl) (by first | omega | exact Nat.le_of_ble_eq_true rfl)) ?_ | refine RL.e0 (Ef.st hS 2 rfl rfl rfl (by rfl) (by rfl) (by first | omega | exact Nat.le_of_ble_eq_true rfl)) ?_ | refine RL.e0 (Ef.st hS 3 rfl rfl rfl (by rfl) (by rfl) (by first | omega | exact Nat.le_of_ble_eq_true rfl)) ?_ | refine RL.e0 (Ef.st hS 4 rfl rfl rfl (by rfl) (by rfl) (by first | omega | exact Nat.le_of_ble_eq_true rfl)) ?_
  intro _ w hS
  simp (disch := omega) only [cells_slice', Nat.zero_add] at hS
  refine RL.nil ?_
  refine RE.sqN ?_
  refine RC.seq ?_
  refine RC.region rfl ?_
  refine RL.q (Qt.as rfl) ?_
  refine RL.nil ?_
  refine RE.sqN ?_
  refine RC.ret ?_
  -- stops: end ret
  have hq2 := hq.qc.setLinks (.slice (some ⟨b', 0, none⟩) n cap')
  have hS := qO_shut (cap := cap') ⟨hq.ri, hq.mw, hq.pos, hq.max, hq2, hla⟩ (hS.pick [2, 0, 3, 1, 4] (by decide) rfl)
  have hS := qO_shut hq (hS.pick [1, 2, 0, 3] (by decide) rfl)
  exact RE.retB rfl (ps := [qO _ n l, qO _ n l]) rfl (hS.pick [1, 0, 2] (by decide) rfl)
end Go.Proofs

/- The reference queue of layer 2: Mask. -/
import Derived.Test.YtfloihcepfpefaaBq2
namespace Go.Proofs
open Go Go.Gx
variable {oo : World}

/-- Four words in an array. -/
structure WC (W : Int → Int) (c : Array Value) : Prop where
  size : c.size = 4
  at' : ∀ i : Int, 0 ≤ i → i < 4 → c.toList[0 + i.toNat * 1]? = some (.int .u64 (W i))
theorem WC.set {W : Int → Int} {c : Array Value} (h : WC W c) {i : Int} (h0 : 0 ≤ i) (h1 : i < 4) (x : Int) : WC (upd W i x) (wr c (i.toNat * 1) [.int .u64 x]) := by
  have hs := h.size
  have hg := wr1_get (c := c) (k := i.toNat * 1) (by omega) (.int .u64 x)
  refine ⟨by rw [wr_size]; exact hs, fun u g0 g1 => ?_⟩
  rw [hg]
  by_cases e : u = i
  · subst e; rw [if_pos (by omega), upd_same]
  · rw [if_neg (by omega), upd_ne _ _ e]; exact h.at' u g0 g1
theorem WC.words {W : Int → Int} {c : Array Value} (h : WC W c) : c = #[.int .u64 (W 0), .int .u64 (W 1), .int .u64 (W 2), .int .u64 (W 3)] := by
  have hs := h.size
  apply Array.ext'
  apply List.ext_getElem?
  intro i
  match i with
  | 0 => simpa using h.at' 0 (by omega) (by omega)
  | 1 => simpa using h.at' 1 (by omega) (by omega)
  | 2 => simpa using h.at' 2 (by omega) (by omega)
  | 3 => simpa using h.at' 3 (by omega) (by omega)
  | i + 4 => rw [List.getElem?_eq_none (by simp [hs]), List.getElem?_eq_none (by simp)]

theorem lvM_snoc (l : List RItem) (x : RItem) (u : Int) : lvM (l ++ [x]) u = upd (lvM l) x.lv true u := by
  unfold lvM
  rw [rIds_snoc]
  by_cases e : u = x.lv
  · subst e; rw [upd_same]; simp
  · rw [upd_ne _ _ e, if_neg (fun h => e h.symm), List.append_nil]

set_option maxHeartbeats 1000000 in
theorem rqMask (p : Value) (n : Nat) (l : List RItem) (hr : ∀ y ∈ l, 0 ≤ y.lv ∧ y.lv ≤ 255) : Ct Try.prog 34 #[p] [refQ p n l] (fun v ps => IsMask v l ∧ ps = [refQ p n l]) := by
  refine Ct.enter Try.func34 rfl (Nat.le_of_ble_eq_true rfl) ?_
  intro oo w R hS
  change RC _ _ _ _ _ _ [(0, _)] _
  obtain ⟨b, sp, cap, rfl, hl, hS⟩ := refQ_open hS
  refine RC.seq ?_
  refine RC.region rfl ?_
  refine RL.e (Ef.alloc hS) ?_
  rintro _ w ⟨b2, rfl, hS⟩
  try simp (disch := omega) only [cells_agg'] at hS
  refine RL.nil ?_
  refine RE.sqN ?_
  refine RC.seq ?_
  refine RC.region rfl ?_
  refine RL.e (Ef.alloc hS) ?_
  rintro _ w ⟨b3, rfl, hS⟩
  try simp (disch := omega) only [cells_agg'] at hS
  refine RL.nil ?_
  refine RE.sqN ?_
  refine RC.seq ?_
  refine RC.seq ?_
  refine RC.region rfl ?_
  refine RL.q (Qt.as rfl) ?_
  refine RL.nil ?_
  refine RE.sqN ?_
  refine RC.block ?_
  -- stops: loop
  refine RC.loop (γ := Nat × (Int → Int) × Array Value) (fun g E w' => E = [(4, .int .i64 g.1), (3, .pointer (some ⟨b3, 0, none⟩)), (2, .pointer (some ⟨b2, 0, none⟩)), (0, .pointer (some ⟨b, 0, none⟩))] ∧ Sat oo w' [pt b3 (.cells g.2.2 33 (0, 0)), pt b2 (.cells #[.int .u64 0, .int .u64 0, .int .u64 0, .int .u64 0] 33 (0, 0)), pt b (.cells #[.int .i64 n, .slice sp l.length cap] 68 (0, 0)), own (.slice sp l.length cap) 72 2 l.length (l.flatMap RItem.cells), R] ∧ g.1 ≤ l.length ∧ WC g.2.1 g.2.2 ∧ MW g.2.1 (lvM (l.take g.1))) (fun g => l.length - g.1) (0, (fun _ => 0), #[.int .u64 0, .int .u64 0, .int .u64 0, .int .u64 0]) _ (by (repeat (first | exact Sub.nil | refine Sub.cons rfl ?_))) ⟨rfl, hS, by simp, ⟨rfl, fun i h0 h1 => by
    rcases (show i = 0 ∨ i = 1 ∨ i = 2 ∨ i = 3 by omega) with rfl | rfl | rfl | rfl <;> rfl⟩, MW.zero.congr fun v _ _ => by simp [lvM, rIds]⟩ ?_
  clear hS
  rintro ⟨k, W, c⟩ E w ⟨rfl, hS, hk, hc, hm⟩
  dsimp only at hk hc hm
  refine RC.seq ?_
  refine RC.seq ?_
  refine RC.region rfl ?_
  refine RL.q (Qt.mv rfl) ?_
  refine RL.q (Qt.neqN rfl rfl) ?_
  refine RL.q (Qt.mv rfl) ?_
  refine RLG.start 8 true rfl ?_
  refine RLG.q rfl rfl rfl (fun _ => Qt.mv rfl) ?_
  refine RLG.q rfl rfl rfl (fun _ => Qt.mv rfl) ?_
  refine RLG.q rfl rfl rfl (fun _ => Qt.nil rfl) ?_
  refine RLG.q rfl rfl rfl (fun _ => Qt.fld rfl) ?_
  refine RLG.q rfl rfl rfl (fun hg => by (try simp only [Option.isSome_some] at hg); exact Qt.ld rfl (by first | exact hS.at 0 rfl | exact hS.at 1 rfl | exact hS.at 2 rfl | exact hS.at 3 rfl | exact hS.at 4 rfl) (by first  | rfl)) ?_
  refine RLG.q rfl rfl rfl (fun _ => Qt.lenS rfl) ?_
  refine RLG.q rfl rfl rfl (fun hg => by (try simp only [Option.isSome_some] at hg); exact Qt.lss rfl rfl) ?_
  refine RLG.and rfl rfl ?_
  refine RL.nil ?_
  refine RE.sqN ?_
  -- stops: cond
  refine RC.cond rfl (fun h => ?_) (fun h => ?_)
  · skip
    have hlt : k < l.length := by simpa using h
    have hlv := hr _ (List.getElem_mem hlt)
    have hz := hc.size
    obtain ⟨bs, cap', c', hv, hc1, hc2, hc3, hc4, hS⟩ := hS.ownPos 3 rfl (by omega)
    cases hv
    have ho := hm.or hlv.1 hlv.2
    refine RC.skip ?_
    refine RE.sqN ?_
    refine RC.seq ?_
    refine RC.block ?_
    refine RC.seq ?_
    refine RC.region rfl ?_
    refine RL.q (Qt.mv rfl) ?_
    refine RL.q (Qt.nil rfl) ?_
    refine RL.q (Qt.fld rfl) ?_
    refine RL.q (Qt.ld rfl (by first | exact hS.at 0 rfl | exact hS.at 1 rfl | exact hS.at 2 rfl | exact hS.at 3 rfl | exact hS.at 4 rfl) (by first | exact item_id hc4 rfl hlt | exact item_lv hc4 rfl hlt | exact hc.at' _ (by omega) (by omega) | rfl)) ?_
    refine RL.q (Qt.mv rfl) ?_
    refine RL.q (Qt.ixS rfl rfl (by first | assumption | omega) (by first | assumption | omega)) ?_
    refine RL.q (Qt.fld rfl) ?_
    refine RL.q (Qt.ld rfl (by first | exact hS.at 0 rfl | exact hS.at 1 rfl | exact hS.at 2 rfl | exact hS.at 3 rfl | exact hS.at 4 rfl) (by first | exact item_id hc4 rfl hlt | exact item_lv hc4 rfl hlt | exact hc.at' _ (by omega) (by omega) | rfl)) ?_
    refine RL.q ((by first | exact Qt.cvtI rfl (by dsimp only [inK]; omega) | exact Qt.cvt rfl)) ?_
    refine RL.q (Qt.as rfl) ?_
    refine RL.nil ?_
    refine RE.sqN ?_
    refine RC.drawn 9 [0, 1, 2, 3, 4, 5, 6, 7, 8] (Same _) (by kernel_rfl) (by kernel_rfl) Same.drew (fun hh => ?_)
    replace hS := hS.drew
    refine RH.q hh (Calm.bk (Calm.sq (Calm.lp (Calm.bk (Calm.sq Calm.body))))) rfl (by kernel_rfl) (Qt.mv rfl) ?_
    refine RH.q hh (Calm.bk (Calm.sq (Calm.lp (Calm.bk (Calm.sq Calm.body))))) rfl (by kernel_rfl) ((by first | exact Qt.quoI rfl rfl (by dsimp only [inK]; omega) (by omega) | exact Qt.quo rfl rfl (by first | decide | omega))) ?_
    refine RH.q hh (Calm.bk (Calm.sq (Calm.lp (Calm.bk (Calm.sq Calm.body))))) rfl (by kernel_rfl) (Qt.ixA rfl rfl (by first | assumption | omega) (by first | assumption | omega)) ?_
    refine RH.q hh (Calm.bk (Calm.sq (Calm.lp (Calm.bk (Calm.sq Calm.body))))) rfl (by kernel_rfl) (Qt.ld rfl (by first | exact hS.at 0 rfl | exact hS.at 1 rfl | exact hS.at 2 rfl | exact hS.at 3 rfl | exact hS.at 4 rfl) (by first | exact item_id hc4 rfl hlt | exact item_lv hc4 rfl hlt | exact hc.at' _ (by omega) (by omega) | rfl)) ?_
    refine RH.q hh (Calm.bk (Calm.sq (Calm.lp (Calm.bk (Calm.sq Calm.body))))) rfl (by kernel_rfl) (Qt.mv rfl) ?_
    refine RH.q hh (Calm.bk (Calm.sq (Calm.lp (Calm.bk (Calm.sq Calm.body))))) rfl (by kernel_rfl) ((by first | exact Qt.remI rfl rfl (by omega) | exact Qt.rem rfl rfl (by first | decide | omega))) ?_
    refine RH.q hh (Calm.bk (Calm.sq (Calm.lp (Calm.bk (Calm.sq Calm.body))))) rfl (by kernel_rfl) (Qt.shl rfl rfl (by first | assumption | omega)) ?_
    refine RH.q hh (Calm.bk (Calm.sq (Calm.lp (Calm.bk (Calm.sq Calm.body))))) rfl (by kernel_rfl) (Qt.or rfl rfl) ?_
    refine RH.q hh (Calm.bk (Calm.sq (Calm.lp (Calm.bk (Calm.sq Calm.body))))) rfl (by kernel_rfl) (Qt.ixA rfl rfl (by first | assumption | omega) (by first | assumption | omega)) ?_
    refine RH.done hh (by kernel_rfl) ?_
    first | refine RL.e0 (Ef.st hS 0 rfl rfl rfl (by rfl) (by rfl) (by first | exact Nat.le_of_ble_eq_true rfl | omega | (simp only []; omega))) ?_ | refine RL.e0 (Ef.st hS 1 rfl rfl rfl (by rfl) (by rfl) (by first | exact Nat.le_of_ble_eq_true rfl | omega | (simp only [wr_size]; omega))) ?_ | refine RL.e0 (Ef.st hS 2 rfl rfl rfl (by rfl) (by rfl) (by first | exact Nat.le_of_ble_eq_true rfl | omega | (simp only [wr_size]; omega))) ?_ | refine RL.e0 (Ef.st hS 3 rfl rfl rfl (by rfl) (by rfl) (by first | exact Nat.le_of_ble_eq_true rfl | omega | (simp only [wr_size]; omega))) ?_ | refine RL.e0 (Ef.st hS 4 rfl rfl rfl (by rfl) (by rfl) (by first | exact Nat.le_of_ble_eq_true rfl | omega | (simp only [wr_size]; omega))) ?_
    intro _ w hS
    simp (disch := omega) only [List.set_cons_zero, List.set_cons_succ, cells_int', Nat.zero_add, List.set_cons_zero] at hS
    refine RL.nil ?_
    refine RE.bkN ?_
    refine RE.sqN ?_
    refine RC.region rfl ?_
    refine RL.q (Qt.mv rfl) ?_
    refine RL.q ((by first | exact Qt.addI rfl rfl (by dsimp only [inK]; omega) | exact Qt.add rfl rfl)) ?_
    refine RL.q (Qt.as rfl) ?_
    refine RL.nil ?_
    -- stops: next
    have hS := hS.ownMk (cap := cap) (n := l.length) (sz := 2) (cs := l.flatMap RItem.cells) 3 rfl hc1 hc2 hc3 hc4
    apply RE.lpN ((k + 1, upd W (l[k].lv / 64) (orB (W (l[k].lv / 64)) (l[k].lv % 64)), wr c ((l[k].lv / 64).toNat * 1) [.int .u64 (orB (W (l[k].lv / 64)) (l[k].lv % 64))]))
    case hI => exact ⟨rfl, hS, hlt, hc.set (by omega) (by omega) _, ho.congr fun v _ _ => by rw [List.take_succ_eq_append_getElem hlt, lvM_snoc]⟩
    case hs => (repeat (first | exact Sub.nil | refine Sub.cons rfl ?_))
    case hm =>
      show l.length - (k + 1) < l.length - k
      omega
  · skip
    have hge : k = l.length := by
      have : ¬ k < l.length := by simpa using h
      omega
    subst hge
    rw [List.take_length] at hm
    have hw := hc.words
    subst hw
    refine RC.exit ?_
    refine RE.sqX ?_
    refine RE.lpX ?_
    refine RE.bkX ?_
    refine RE.sqN ?_
    refine RC.seq ?_
    refine RC.region rfl ?_
    refine RL.q (Qt.ldA rfl (by first | exact hS.at 0 rfl | exact hS.at 1 rfl | exact hS.at 2 rfl | exact hS.at 3 rfl | exact hS.at 4 rfl) (by first  | rfl) (by first | exact Nat.le_of_ble_eq_true rfl | omega | (simp only [Array.size_map]; omega))) ?_
    first | refine RL.e0 (Ef.st hS 0 rfl rfl rfl (by rfl) (by rfl) (by first | exact Nat.le_of_ble_eq_true rfl | omega | (simp only [Array.size_map]; omega))) ?_ | refine RL.e0 (Ef.st hS 1 rfl rfl rfl (by rfl) (by rfl) (by first | exact Nat.le_of_ble_eq_true rfl | omega | (simp only [Array.size_map]; omega))) ?_ | refine RL.e0 (Ef.st hS 2 rfl rfl rfl (by rfl) (by rfl) (by first | exact Nat.le_of_ble_eq_true rfl | omega | (simp only [Array.size_map]; omega))) ?_ | refine RL.e0 (Ef.st hS 3 rfl rfl rfl (by rfl) (by rfl) (by first | exact Nat.le_of_ble_eq_true rfl | omega | (simp only [Array.size_map]; omega))) ?_ | refine RL.e0 (Ef.st hS 4 rfl rfl rfl (by rfl) (by rfl) (by first | exact Nat.le_of_ble_eq_true rfl | omega | (simp only [Array.size_map]; omega))) ?_
    intro _ w hS
    simp (disch := omega) only [List.set_cons_zero, List.set_cons_succ, cells_agg', Nat.zero_add] at hS
    refine RL.nil ?_
    refine RE.sqN ?_
    refine RC.ret ?_
    -- stops: end ret
    refine RE.retCell hS rfl rfl (k := 1) rfl rfl (Nat.le_of_ble_eq_true rfl) ⟨⟨W, rfl, hm⟩, rfl⟩ (refQ_shut hl (hS.pick [2, 3, 4] (by decide) rfl))
end Go.Proofs

/- The law PheapRises answers true. -/
import Derived.Test.YtlicnplclfclcaaPhX
namespace Go.Proofs
open Go Go.Gx
variable {oo : World}

set_option maxHeartbeats 4000000 in
theorem phLawRises (n : Int) (hn : 0 ≤ n ∧ n ≤ 255) (v : Value) (ds : List PDeed) (F0 : Frag) (hR : PDeedsAt v ds F0) (hd : ∀ x ∈ ds, x.ok) : Ct Try.prog 6 #[.int .u8 n, v] [pin F0] (fun v' ps => v' = .bool true ∧ ps = [pin F0]) := by
  refine Ct.enter Try.func6 rfl (Nat.le_of_ble_eq_true rfl) ?_
  intro oo w R hS
  change RC _ _ _ _ _ _ [(0, _), (1, _)] _
  refine RC.seq ?_
  refine RC.region rfl ?_
  refine RL.q (Qt.as rfl) ?_
  refine RL.nil ?_
  refine RE.sqN ?_
  refine RC.seq ?_
  refine RC.region rfl ?_
  refine RL.q (Qt.mv rfl) ?_
  refine RL.q (Qt.mv rfl) ?_
  -- stops: op call
  refine RL.e (Ef.call hS (phPlay n hn v ds F0 hR hd) rfl rfl Try.call28 [0] [1] (by decide) rfl rfl) ?_
  rintro v20 w ⟨ps, ⟨b, r, l, rfl, hnn, rfl⟩, hS⟩
  refine RL.q (Qt.mv rfl) ?_
  refine RL.q (Qt.ext rfl rfl) ?_
  refine RL.q (Qt.ext rfl rfl) ?_
  refine RL.q (Qt.ext rfl rfl) ?_
  refine RL.q (Qt.as rfl) ?_
  refine RL.q (Qt.as rfl) ?_
  refine RL.q (Qt.as rfl) ?_
  refine RL.nil ?_
  refine RE.sqN ?_
  refine RC.seq ?_
  refine RC.seq ?_
  refine RC.region rfl ?_
  -- stops: op call
  refine RL.e (Ef.call hS (phLive) rfl rfl Try.call29 [] [0, 1, 2, 3] (by decide) rfl rfl) ?_
  rintro v24 w ⟨ps, ⟨rfl, p', l', rfl⟩, hS⟩
  refine RL.q (Qt.not rfl) ?_
  refine RL.q (Qt.mv rfl) ?_
  refine RLG.start 26 false rfl ?_
  refine RLG.q rfl rfl rfl (fun _ => Qt.mv rfl) ?_
  refine RLG.q rfl rfl rfl (fun _ => Qt.not rfl) ?_
  refine RLG.or rfl rfl ?_
  refine RL.nil ?_
  refine RE.sqN ?_
  -- stops: cond
  refine RC.condF rfl (rfl) ?_
  refine RC.skip ?_
  refine RE.sqN ?_
  refine RC.seq ?_
  refine RC.region rfl ?_
  refine RL.q (Qt.mv rfl) ?_
  -- stops: op call
  have hS := hS.pick [1, 3, 4] (by decide) rfl
  obtain ⟨hok, hn1, hn2⟩ := hO_pok hS
  have hlen := hok.lenLe
  have hpl : (pIds l).length = l.length := List.length_map _
  refine RL.e (Ef.call hS (phList _ _ l) rfl rfl Try.call30 [0] [1, 2] (by decide) rfl rfl) ?_
  rintro v31 w ⟨ps, rfl, hS⟩
  obtain ⟨sp, cap, rfl⟩ := hS.ownForm 0 rfl
  refine RL.q (Qt.as rfl) ?_
  refine RL.nil ?_
  refine RE.sqN ?_
  refine RC.seq ?_
  refine RC.seq ?_
  refine RC.region rfl ?_
  refine RL.q (Qt.mv rfl) ?_
  refine RL.q (Qt.lenS rfl) ?_
  refine RL.q (Qt.mv rfl) ?_
  -- stops: op call
  refine RL.e (Ef.call hS (phLen _ _ l) rfl rfl Try.call33 [1] [0, 2, 3] (by decide) rfl rfl) ?_
  rintro v35 w ⟨ps, ⟨rfl, rfl⟩, hS⟩
  refine RL.q (Qt.neq rfl rfl) ?_
  refine RL.nil ?_
  refine RE.sqN ?_
  -- stops: cond
  refine RC.condF rfl (by simp [hpl]) ?_
  refine RC.skip ?_
  refine RE.sqN ?_
  refine RC.seq ?_
  refine RC.region rfl ?_
  refine RL.q (Qt.as rfl) ?_
  refine RL.q (Qt.as rfl) ?_
  refine RL.nil ?_
  refine RE.sqN ?_
  refine RC.seq ?_
  refine RC.seq ?_
  refine RC.region rfl ?_
  refine RL.q (Qt.as rfl) ?_
  refine RL.nil ?_
  refine RE.sqN ?_
  refine RC.block ?_
  -- stops: loop
  have hS := hS.pick [1, 0, 2, 3] (by decide) rfl
  refine RC.loop (γ := Nat × Int × Int) (fun g E w' => E = [(11, .int .i64 g.1), (10, .int .u64 g.2.2), (9, .int .u64 g.2.1), (8, .slice sp (pIds l).length cap), (5, .pointer (some ⟨b, 0, none⟩))] ∧ g.1 ≤ l.length ∧ Sat oo w' [ownI (.slice sp (pIds l).length cap) (pIds l), hO (.pointer (some ⟨b, 0, none⟩)) (n % 16 + 1).toNat (l.drop g.1), pin F0, R] ∧ ((g.1 = 0 ∧ g.2.1 = 0) ∨ ∃ h : g.1 - 1 < l.length, 0 < g.1 ∧ g.2.1 = l[g.1 - 1].dl ∧ g.2.2 = l[g.1 - 1].sq)) (fun g => l.length - g.1) (0, 0, 0) _ (by (repeat (first | exact Sub.nil | refine Sub.cons rfl ?_))) ⟨rfl, by simp, hS, .inl ⟨rfl, rfl⟩⟩ ?_
  clear hS
  rintro ⟨k, pd, ps⟩ E w ⟨rfl, hk, hS, hprev⟩
  dsimp only at hk hS hprev
  refine RC.seq ?_
  refine RC.seq ?_
  refine RC.region rfl ?_
  refine RL.q (Qt.mv rfl) ?_
  refine RL.q (Qt.mv rfl) ?_
  refine RL.q (Qt.lenS rfl) ?_
  refine RL.q (Qt.lss rfl rfl) ?_
  refine RL.nil ?_
  refine RE.sqN ?_
  -- stops: cond
  refine RC.cond rfl (fun h2 => ?_) (fun h2 => ?_)
  · skip
    have hlt : k < l.length := by
      have : (k : Int) < ((pIds l).length : Int) := of_decide_eq_true h2
      omega
    have hlt' : k < (pIds l).length := by omega
    have hd2 : l.drop k = l[k] :: l.drop (k + 1) := List.drop_eq_getElem_cons hlt
    have hg : (pIds l)[k] = l[k].id := by simp [pIds]
    have hok2 : POk (n % 16 + 1).toNat (l.drop k) := (hO_pok (hS.pick [1, 0, 2, 3] (by decide) rfl)).1
    rw [hd2] at hS hok2
    have hget : pGet (l[k] :: l.drop (k + 1)) l[k].id = .tuple #[.int .u64 l[k].dl, .int .u64 l[k].sq, .bool true] := pGet_some hok2.nodup (x := l[k]) List.mem_cons_self
    obtain ⟨bs, cap', c, hv, hc1, hc2, hc3, hc4, hS⟩ := hS.ownPos 0 rfl (by omega)
    cases hv
    have hck : c.toList[0 + ((k : Nat) : Int).toNat * 1]? = some (.int .i64 l[k].id) := by rw [int_cell hc4 rfl hlt', hg]
    refine RC.skip ?_
    refine RE.sqN ?_
    refine RC.seq ?_
    refine RC.block ?_
    refine RC.seq ?_
    refine RC.region rfl ?_
    refine RL.q (Qt.mv rfl) ?_
    refine RL.q (Qt.mv rfl) ?_
    refine RL.q (Qt.mv rfl) ?_
    refine RL.q (Qt.ixS rfl rfl (by first | assumption | omega | (dsimp only; omega)) (by first | assumption | omega | (dsimp only; omega))) ?_
    refine RL.q (Qt.ld rfl (by first | exact hS.at 0 rfl | exact hS.at 1 rfl | exact hS.at 2 rfl | exact hS.at 3 rfl) (by first | exact hck | rfl)) ?_
    -- stops: op call
    refine RL.e (Ef.call hS (phGet _ _ _ l[k].id) rfl rfl Try.call38 [1] [0, 2, 3] (by decide) rfl rfl) ?_
    rintro v49 w ⟨ps, ⟨rfl, rfl⟩, hS⟩
    rw [hget]
    refine RL.q (Qt.mv rfl) ?_
    refine RL.q (Qt.ext rfl rfl) ?_
    refine RL.q (Qt.ext rfl rfl) ?_
    refine RL.q (Qt.ext rfl rfl) ?_
    refine RL.q (Qt.as rfl) ?_
    refine RL.q (Qt.as rfl) ?_
    refine RL.q (Qt.as rfl) ?_
    refine RL.nil ?_
    refine RE.sqN ?_
    refine RC.seq ?_
    refine RC.region rfl ?_
    refine RL.q (Qt.mv rfl) ?_
    -- stops: op call
    refine RL.e (Ef.call hS (phTake _ _ _) rfl rfl Try.call39 [0] [1, 2, 3] (by decide) rfl rfl) ?_
    rintro v55 w ⟨ps, ⟨rfl, rfl⟩, hS⟩
    rw [show pMinId (l[k] :: l.drop (k + 1)) = l[k].id from rfl, show pMinOk (l[k] :: l.drop (k + 1)) = true from rfl]
    have f1 : decide (l[k].id ≠ l[k].id) = false := by simp
    refine RL.q (Qt.mv rfl) ?_
    refine RL.q (Qt.ext rfl rfl) ?_
    refine RL.q (Qt.ext rfl rfl) ?_
    refine RL.q (Qt.as rfl) ?_
    refine RL.q (Qt.as rfl) ?_
    refine RL.nil ?_
    refine RE.sqN ?_
    refine RC.seq ?_
    refine RC.seq ?_
    -- stops: drawn
    rcases hprev with ⟨rfl, rfl⟩ | ⟨hk1, hk0, rfl, rfl⟩
    · have f2 : decide (l[0].dl < 0) = false := by
        have := hnn _ (List.getElem_mem hlt)
        exact decide_eq_false (by omega)
      refine RC.drawn 50 [0, 1, 2, 3, 4, 5, 6, 7, 8, 9, 10, 11, 12, 13, 14, 15, 16, 17, 18, 19, 20, 21, 22, 23, 24, 25, 26, 27, 28, 29, 30, 31, 32, 33, 34, 35, 36, 37, 38, 39, 40, 41, 42, 43, 44, 45, 46, 47, 48, 49] (Same _) (by kernel_rfl) (by kernel_rfl) Same.drew (fun hh => ?_)
      replace hS := hS.drew
      refine RH.q hh (Calm.sq (Calm.sq (Calm.bk (Calm.sq (Calm.lp (Calm.bk (Calm.sq Calm.body))))))) rfl (by kernel_rfl) (Qt.mv rfl) ?_
      refine RH.q hh (Calm.sq (Calm.sq (Calm.bk (Calm.sq (Calm.lp (Calm.bk (Calm.sq Calm.body))))))) rfl (by kernel_rfl) (Qt.not rfl) ?_
      refine RH.q hh (Calm.sq (Calm.sq (Calm.bk (Calm.sq (Calm.lp (Calm.bk (Calm.sq Calm.body))))))) rfl (by kernel_rfl) (Qt.mv rfl) ?_
      refine RH.q hh (Calm.sq (Calm.sq (Calm.bk (Calm.sq (Calm.lp (Calm.bk (Calm.sq Calm.body))))))) rfl (by kernel_rfl) (Qt.mv rfl) ?_ (Runs.guard rfl rfl rfl (rfl))
      refine RH.q hh (Calm.sq (Calm.sq (Calm.bk (Calm.sq (Calm.lp (Calm.bk (Calm.sq Calm.body))))))) rfl (by kernel_rfl) (Qt.not rfl) ?_ (Runs.guard rfl rfl rfl (rfl))
      refine RH.q hh (Calm.sq (Calm.sq (Calm.bk (Calm.sq (Calm.lp (Calm.bk (Calm.sq Calm.body))))))) rfl (by kernel_rfl) ((by first | exact Qt.pickT rfl (by assumption) rfl | exact Qt.pickF rfl (by assumption) rfl | exact Qt.pickT rfl rfl rfl | exact Qt.pickF rfl rfl rfl)) ?_
      refine RH.q hh (Calm.sq (Calm.sq (Calm.bk (Calm.sq (Calm.lp (Calm.bk (Calm.sq Calm.body))))))) rfl (by kernel_rfl) (Qt.mv rfl) ?_
      refine RH.q hh (Calm.sq (Calm.sq (Calm.bk (Calm.sq (Calm.lp (Calm.bk (Calm.sq Calm.body))))))) rfl (by kernel_rfl) (Qt.mv rfl) ?_ (Runs.guard rfl rfl rfl (rfl))
      refine RH.q hh (Calm.sq (Calm.sq (Calm.bk (Calm.sq (Calm.lp (Calm.bk (Calm.sq Calm.body))))))) rfl (by kernel_rfl) (Qt.mv rfl) ?_ (Runs.guard rfl rfl rfl (rfl))
      refine RH.q hh (Calm.sq (Calm.sq (Calm.bk (Calm.sq (Calm.lp (Calm.bk (Calm.sq Calm.body))))))) rfl (by kernel_rfl) (Qt.mv rfl) ?_ (Runs.guard rfl rfl rfl (rfl))
      refine RH.q hh (Calm.sq (Calm.sq (Calm.bk (Calm.sq (Calm.lp (Calm.bk (Calm.sq Calm.body))))))) rfl (by kernel_rfl) (Qt.ixS rfl rfl (by first | assumption | omega | (dsimp only; omega)) (by first | assumption | omega | (dsimp only; omega))) ?_ (Runs.guard rfl rfl rfl (rfl))
      refine RH.q hh (Calm.sq (Calm.sq (Calm.bk (Calm.sq (Calm.lp (Calm.bk (Calm.sq Calm.body))))))) rfl (by kernel_rfl) (Qt.ld rfl (fun w hw => by rw [hw]; exact hS.get 1 rfl) (by first | exact hck | rfl)) ?_ (Runs.guard rfl rfl rfl (rfl))
      refine RH.q hh (Calm.sq (Calm.sq (Calm.bk (Calm.sq (Calm.lp (Calm.bk (Calm.sq Calm.body))))))) rfl (by kernel_rfl) (Qt.neq rfl rfl) ?_ (Runs.guard rfl rfl rfl (rfl))
      refine RH.q hh (Calm.sq (Calm.sq (Calm.bk (Calm.sq (Calm.lp (Calm.bk (Calm.sq Calm.body))))))) rfl (by kernel_rfl) ((by first | exact Qt.pickT rfl (by assumption) rfl | exact Qt.pickF rfl (by assumption) rfl | exact Qt.pickT rfl rfl rfl | exact Qt.pickF rfl rfl rfl)) ?_
      refine RH.q hh (Calm.sq (Calm.sq (Calm.bk (Calm.sq (Calm.lp (Calm.bk (Calm.sq Calm.body))))))) rfl (by kernel_rfl) (Qt.mv rfl) ?_
      refine RH.q hh (Calm.sq (Calm.sq (Calm.bk (Calm.sq (Calm.lp (Calm.bk (Calm.sq Calm.body))))))) rfl (by kernel_rfl) (Qt.mv rfl) ?_ (Runs.guard rfl rfl rfl (f1))
      refine RH.q hh (Calm.sq (Calm.sq (Calm.bk (Calm.sq (Calm.lp (Calm.bk (Calm.sq Calm.body))))))) rfl (by kernel_rfl) (Qt.mv rfl) ?_ (Runs.guard rfl rfl rfl (f1))
      refine RH.q hh (Calm.sq (Calm.sq (Calm.bk (Calm.sq (Calm.lp (Calm.bk (Calm.sq Calm.body))))))) rfl (by kernel_rfl) (Qt.lss rfl rfl) ?_ (Runs.guard rfl rfl rfl (f1))
      refine RH.q hh (Calm.sq (Calm.sq (Calm.bk (Calm.sq (Calm.lp (Calm.bk (Calm.sq Calm.body))))))) rfl (by kernel_rfl) ((by first | exact Qt.pickT rfl (by assumption) rfl | exact Qt.pickF rfl (by assumption) rfl | exact Qt.pickT rfl rfl rfl | exact Qt.pickF rfl rfl rfl)) ?_
      refine RH.q hh (Calm.sq (Calm.sq (Calm.bk (Calm.sq (Calm.lp (Calm.bk (Calm.sq Calm.body))))))) rfl (by kernel_rfl) (Qt.mv rfl) ?_
      refine RH.q hh (Calm.sq (Calm.sq (Calm.bk (Calm.sq (Calm.lp (Calm.bk (Calm.sq Calm.body))))))) rfl (by kernel_rfl) (Qt.mv rfl) ?_ (Runs.guard rfl rfl rfl (f2))
      refine RH.q hh (Calm.sq (Calm.sq (Calm.bk (Calm.sq (Calm.lp (Calm.bk (Calm.sq Calm.body))))))) rfl (by kernel_rfl) (Qt.gtr rfl rfl) ?_ (Runs.guard rfl rfl rfl (f2))
      refine RH.q hh (Calm.sq (Calm.sq (Calm.bk (Calm.sq (Calm.lp (Calm.bk (Calm.sq Calm.body))))))) rfl (by kernel_rfl) (Qt.mv rfl) ?_ (Runs.guard rfl rfl rfl (f2))
      refine RH.s hh (Calm.sq (Calm.sq (Calm.bk (Calm.sq (Calm.lp (Calm.bk (Calm.sq Calm.body))))))) rfl (by kernel_rfl) (Skips.guard rfl rfl rfl (rfl)) ?_
      refine RH.s hh (Calm.sq (Calm.sq (Calm.bk (Calm.sq (Calm.lp (Calm.bk (Calm.sq Calm.body))))))) rfl (by kernel_rfl) (Skips.guard rfl rfl rfl (rfl)) ?_
      refine RH.s hh (Calm.sq (Calm.sq (Calm.bk (Calm.sq (Calm.lp (Calm.bk (Calm.sq Calm.body))))))) rfl (by kernel_rfl) (Skips.guard rfl rfl rfl (rfl)) ?_
      refine RH.q hh (Calm.sq (Calm.sq (Calm.bk (Calm.sq (Calm.lp (Calm.bk (Calm.sq Calm.body))))))) rfl (by kernel_rfl) ((by first | exact Qt.pickT rfl (by assumption) rfl | exact Qt.pickF rfl (by assumption) rfl | exact Qt.pickT rfl rfl rfl | exact Qt.pickF rfl rfl rfl)) ?_ (Runs.guard rfl rfl rfl (f2))
      refine RH.q hh (Calm.sq (Calm.sq (Calm.bk (Calm.sq (Calm.lp (Calm.bk (Calm.sq Calm.body))))))) rfl (by kernel_rfl) (Qt.mv rfl) ?_ (Runs.guard rfl rfl rfl (f2))
      refine RH.s hh (Calm.sq (Calm.sq (Calm.bk (Calm.sq (Calm.lp (Calm.bk (Calm.sq Calm.body))))))) rfl (by kernel_rfl) (Skips.guard rfl rfl rfl (rfl)) ?_
      refine RH.s hh (Calm.sq (Calm.sq (Calm.bk (Calm.sq (Calm.lp (Calm.bk (Calm.sq Calm.body))))))) rfl (by kernel_rfl) (Skips.guard rfl rfl rfl (rfl)) ?_
      refine RH.s hh (Calm.sq (Calm.sq (Calm.bk (Calm.sq (Calm.lp (Calm.bk (Calm.sq Calm.body))))))) rfl (by kernel_rfl) (Skips.guard rfl rfl rfl (rfl)) ?_
      refine RH.s hh (Calm.sq (Calm.sq (Calm.bk (Calm.sq (Calm.lp (Calm.bk (Calm.sq Calm.body))))))) rfl (by kernel_rfl) (Skips.guard rfl rfl rfl (rfl)) ?_
      refine RH.s hh (Calm.sq (Calm.sq (Calm.bk (Calm.sq (Calm.lp (Calm.bk (Calm.sq Calm.body))))))) rfl (by kernel_rfl) (Skips.undef rfl rfl rfl) ?_
      refine RH.s hh (Calm.sq (Calm.sq (Calm.bk (Calm.sq (Calm.lp (Calm.bk (Calm.sq Calm.body))))))) rfl (by kernel_rfl) (Skips.undef rfl rfl rfl) ?_
      refine RH.s hh (Calm.sq (Calm.sq (Calm.bk (Calm.sq (Calm.lp (Calm.bk (Calm.sq Calm.body))))))) rfl (by kernel_rfl) (Skips.undef rfl rfl rfl) ?_
      refine RH.s hh (Calm.sq (Calm.sq (Calm.bk (Calm.sq (Calm.lp (Calm.bk (Calm.sq Calm.body))))))) rfl (by kernel_rfl) (Skips.undef rfl rfl rfl) ?_
      refine RH.s hh (Calm.sq (Calm.sq (Calm.bk (Calm.sq (Calm.lp (Calm.bk (Calm.sq Calm.body))))))) rfl (by kernel_rfl) (Skips.undef rfl rfl rfl) ?_
      refine RH.s hh (Calm.sq (Calm.sq (Calm.bk (Calm.sq (Calm.lp (Calm.bk (Calm.sq Calm.body))))))) rfl (by kernel_rfl) (Skips.undef rfl rfl rfl) ?_
      refine RH.s hh (Calm.sq (Calm.sq (Calm.bk (Calm.sq (Calm.lp (Calm.bk (Calm.sq Calm.body))))))) rfl (by kernel_rfl) (Skips.undef rfl rfl rfl) ?_
      refine RH.s hh (Calm.sq (Calm.sq (Calm.bk (Calm.sq (Calm.lp (Calm.bk (Calm.sq Calm.body))))))) rfl (by kernel_rfl) (Skips.undef rfl rfl rfl) ?_
      refine RH.s hh (Calm.sq (Calm.sq (Calm.bk (Calm.sq (Calm.lp (Calm.bk (Calm.sq Calm.body))))))) rfl (by kernel_rfl) (Skips.undef rfl rfl rfl) ?_
      refine RH.s hh (Calm.sq (Calm.sq (Calm.bk (Calm.sq (Calm.lp (Calm.bk (Calm.sq Calm.body))))))) rfl (by kernel_rfl) (Skips.undef rfl rfl rfl) ?_
      refine RH.s hh (Calm.sq (Calm.sq (Calm.bk (Calm.sq (Calm.lp (Calm.bk (Calm.sq Calm.body))))))) rfl (by kernel_rfl) (Skips.undef rfl rfl rfl) ?_
      refine RH.s hh (Calm.sq (Calm.sq (Calm.bk (Calm.sq (Calm.lp (Calm.bk (Calm.sq Calm.body))))))) rfl (by kernel_rfl) (Skips.undef rfl rfl rfl) ?_
      refine RH.s hh (Calm.sq (Calm.sq (Calm.bk (Calm.sq (Calm.lp (Calm.bk (Calm.sq Calm.body))))))) rfl (by kernel_rfl) (Skips.undef rfl rfl rfl) ?_
      refine RH.s hh (Calm.sq (Calm.sq (Calm.bk (Calm.sq (Calm.lp (Calm.bk (Calm.sq Calm.body))))))) rfl (by kernel_rfl) (Skips.undef rfl rfl rfl) ?_
      refine RH.s hh (Calm.sq (Calm.sq (Calm.bk (Calm.sq (Calm.lp (Calm.bk (Calm.sq Calm.body))))))) rfl (by kernel_rfl) (Skips.undef rfl rfl rfl) ?_
      refine RH.s hh (Calm.sq (Calm.sq (Calm.bk (Calm.sq (Calm.lp (Calm.bk (Calm.sq Calm.body))))))) rfl (by kernel_rfl) (Skips.guard rfl rfl rfl (rfl)) ?_
      refine RH.q hh (Calm.sq (Calm.sq (Calm.bk (Calm.sq (Calm.lp (Calm.bk (Calm.sq Calm.body))))))) rfl (by kernel_rfl) ((by first | exact Qt.pickT rfl (by assumption) rfl | exact Qt.pickF rfl (by assumption) rfl | exact Qt.pickT rfl rfl rfl | exact Qt.pickF rfl rfl rfl)) ?_ (Runs.guard rfl rfl rfl (f2))
      refine RH.q hh (Calm.sq (Calm.sq (Calm.bk (Calm.sq (Calm.lp (Calm.bk (Calm.sq Calm.body))))))) rfl (by kernel_rfl) ((by first | exact Qt.pickT rfl (by assumption) rfl | exact Qt.pickF rfl (by assumption) rfl | exact Qt.pickT rfl rfl rfl | exact Qt.pickF rfl rfl rfl)) ?_
      refine RH.done hh (by kernel_rfl) ?_
      refine RL.nil ?_
      refine RE.sqN ?_
      -- stops: cond
      refine RC.condF rfl (rfl) ?_
      refine RC.skip ?_
      refine RE.sqN ?_
      refine RC.region rfl ?_
      refine RL.q (Qt.mv rfl) ?_
      refine RL.q (Qt.mv rfl) ?_
      refine RL.q (Qt.as rfl) ?_
      refine RL.q (Qt.as rfl) ?_
      refine RL.nil ?_
      refine RE.bkN ?_
      refine RE.sqN ?_
      refine RC.region rfl ?_
      refine RL.q (Qt.mv rfl) ?_
      refine RL.q ((by first | exact Qt.addI rfl rfl (by dsimp only [inK]; omega) | exact Qt.add rfl rfl)) ?_
      refine RL.q (Qt.as rfl) ?_
      refine RL.nil ?_
      -- stops: next
      have hS := (hS.pick [1, 0, 2, 3] (by decide) rfl).ownMk (cap := cap) (n := (pIds l).length) (sz := 1) (cs := ints (pIds l)) 0 rfl hc1 hc2 hc3 hc4
      apply RE.lpN ((0 + 1, l[0].dl, l[0].sq))
      case hI => exact ⟨rfl, hlt, hS, .inr ⟨hlt, by dsimp only; omega, rfl, rfl⟩⟩
      case hs => (repeat (first | exact Sub.nil | refine Sub.cons rfl ?_))
      case hm =>
        show l.length - (0 + 1) < l.length - 0
        omega
    · have hs : PItem.lt l[k - 1] l[k] := List.pairwise_iff_getElem.1 hok.sorted (k - 1) k hk1 hlt (by omega)
      unfold PItem.lt at hs
      have f2 : decide (l[k].dl < l[k - 1].dl) = false := decide_eq_false (by omega)
      have f3 : decide ((k : Int) > 0) = true := decide_eq_true (by omega)
      have hckp : c.toList[0 + ((k : Int) - 1).toNat * 1]? = some (.int .i64 l[k - 1].id) := by
        have h1 : k - 1 < (pIds l).length := by omega
        have := int_cell hc4 rfl h1
        rw [show ((k : Int) - 1).toNat = ((k - 1 : Nat) : Int).toNat by omega, this]
        simp [pIds]
      by_cases h4 : l[k].dl = l[k - 1].dl
      · have f4 : decide (l[k].dl = l[k - 1].dl) = true := decide_eq_true h4
        have f5 : decide (l[k].sq < l[k - 1].sq) = false := decide_eq_false (by omega)
        by_cases h6 : l[k].sq = l[k - 1].sq
        · have f6 : decide (l[k].sq = l[k - 1].sq) = true := decide_eq_true h6
          have f7 : decide (l[k].id < l[k - 1].id) = false := decide_eq_false (by omega)
          refine RC.drawn 50 [0, 1, 2, 3, 4, 5, 6, 7, 8, 9, 10, 11, 12, 13, 14, 15, 16, 17, 18, 19, 20, 21, 22, 23, 24, 25, 26, 27, 28, 29, 30, 31, 32, 33, 34, 35, 36, 37, 38, 39, 40, 41, 42, 43, 44, 45, 46, 47, 48, 49] (Same _) (by kernel_rfl) (by kernel_rfl) Same.drew (fun hh => ?_)
          replace hS := hS.drew
          refine RH.q hh (Calm.sq (Calm.sq (Calm.bk (Calm.sq (Calm.lp (Calm.bk (Calm.sq Calm.body))))))) rfl (by kernel_rfl) (Qt.mv rfl) ?_
          refine RH.q hh (Calm.sq (Calm.sq (Calm.bk (Calm.sq (Calm.lp (Calm.bk (Calm.sq Calm.body))))))) rfl (by kernel_rfl) (Qt.not rfl) ?_
          refine RH.q hh (Calm.sq (Calm.sq (Calm.bk (Calm.sq (Calm.lp (Calm.bk (Calm.sq Calm.body))))))) rfl (by kernel_rfl) (Qt.mv rfl) ?_
          refine RH.q hh (Calm.sq (Calm.sq (Calm.bk (Calm.sq (Calm.lp (Calm.bk (Calm.sq Calm.body))))))) rfl (by kernel_rfl) (Qt.mv rfl) ?_ (Runs.guard rfl rfl rfl (rfl))
          refine RH.q hh (Calm.sq (Calm.sq (Calm.bk (Calm.sq (Calm.lp (Calm.bk (Calm.sq Calm.body))))))) rfl (by kernel_rfl) (Qt.not rfl) ?_ (Runs.guard rfl rfl rfl (rfl))
          refine RH.q hh (Calm.sq (Calm.sq (Calm.bk (Calm.sq (Calm.lp (Calm.bk (Calm.sq Calm.body))))))) rfl (by kernel_rfl) ((by first | exact Qt.pickT rfl (by assumption) rfl | exact Qt.pickF rfl (by assumption) rfl | exact Qt.pickT rfl rfl rfl | exact Qt.pickF rfl rfl rfl)) ?_
          refine RH.q hh (Calm.sq (Calm.sq (Calm.bk (Calm.sq (Calm.lp (Calm.bk (Calm.sq Calm.body))))))) rfl (by kernel_rfl) (Qt.mv rfl) ?_
          refine RH.q hh (Calm.sq (Calm.sq (Calm.bk (Calm.sq (Calm.lp (Calm.bk (Calm.sq Calm.body))))))) rfl (by kernel_rfl) (Qt.mv rfl) ?_ (Runs.guard rfl rfl rfl (rfl))
          refine RH.q hh (Calm.sq (Calm.sq (Calm.bk (Calm.sq (Calm.lp (Calm.bk (Calm.sq Calm.body))))))) rfl (by kernel_rfl) (Qt.mv rfl) ?_ (Runs.guard rfl rfl rfl (rfl))
          refine RH.q hh (Calm.sq (Calm.sq (Calm.bk (Calm.sq (Calm.lp (Calm.bk (Calm.sq Calm.body))))))) rfl (by kernel_rfl) (Qt.mv rfl) ?_ (Runs.guard rfl rfl rfl (rfl))
          refine RH.q hh (Calm.sq (Calm.sq (Calm.bk (Calm.sq (Calm.lp (Calm.bk (Calm.sq Calm.body))))))) rfl (by kernel_rfl) (Qt.ixS rfl rfl (by first | assumption | omega | (dsimp only; omega)) (by first | assumption | omega | (dsimp only; omega))) ?_ (Runs.guard rfl rfl rfl (rfl))
          refine RH.q hh (Calm.sq (Calm.sq (Calm.bk (Calm.sq (Calm.lp (Calm.bk (Calm.sq Calm.body))))))) rfl (by kernel_rfl) (Qt.ld rfl (fun w hw => by rw [hw]; exact hS.get 1 rfl) (by first | exact hck | exact hckp | rfl)) ?_ (Runs.guard rfl rfl rfl (rfl))
          refine RH.q hh (Calm.sq (Calm.sq (Calm.bk (Calm.sq (Calm.lp (Calm.bk (Calm.sq Calm.body))))))) rfl (by kernel_rfl) (Qt.neq rfl rfl) ?_ (Runs.guard rfl rfl rfl (rfl))
          refine RH.q hh (Calm.sq (Calm.sq (Calm.bk (Calm.sq (Calm.lp (Calm.bk (Calm.sq Calm.body))))))) rfl (by kernel_rfl) ((by first | exact Qt.pickT rfl (by assumption) rfl | exact Qt.pickF rfl (by assumption) rfl | exact Qt.pickT rfl rfl rfl | exact Qt.pickF rfl rfl rfl)) ?_
          refine RH.q hh (Calm.sq (Calm.sq (Calm.bk (Calm.sq (Calm.lp (Calm.bk (Calm.sq Calm.body))))))) rfl (by kernel_rfl) (Qt.mv rfl) ?_
          refine RH.q hh (Calm.sq (Calm.sq (Calm.bk (Calm.sq (Calm.lp (Calm.bk (Calm.sq Calm.body))))))) rfl (by kernel_rfl) (Qt.mv rfl) ?_ (Runs.guard rfl rfl rfl (f1))
          refine RH.q hh (Calm.sq (Calm.sq (Calm.bk (Calm.sq (Calm.lp (Calm.bk (Calm.sq Calm.body))))))) rfl (by kernel_rfl) (Qt.mv rfl) ?_ (Runs.guard rfl rfl rfl (f1))
          refine RH.q hh (Calm.sq (Calm.sq (Calm.bk (Calm.sq (Calm.lp (Calm.bk (Calm.sq Calm.body))))))) rfl (by kernel_rfl) (Qt.lss rfl rfl) ?_ (Runs.guard rfl rfl rfl (f1))
          refine RH.q hh (Calm.sq (Calm.sq (Calm.bk (Calm.sq (Calm.lp (Calm.bk (Calm.sq Calm.body))))))) rfl (by kernel_rfl) ((by first | exact Qt.pickT rfl (by assumption) rfl | exact Qt.pickF rfl (by assumption) rfl | exact Qt.pickT rfl rfl rfl | exact Qt.pickF rfl rfl rfl)) ?_
          refine RH.q hh (Calm.sq (Calm.sq (Calm.bk (Calm.sq (Calm.lp (Calm.bk (Calm.sq Calm.body))))))) rfl (by kernel_rfl) (Qt.mv rfl) ?_
          refine RH.q hh (Calm.sq (Calm.sq (Calm.bk (Calm.sq (Calm.lp (Calm.bk (Calm.sq Calm.body))))))) rfl (by kernel_rfl) (Qt.mv rfl) ?_ (Runs.guard rfl rfl rfl (f2))
          refine RH.q hh (Calm.sq (Calm.sq (Calm.bk (Calm.sq (Calm.lp (Calm.bk (Calm.sq Calm.body))))))) rfl (by kernel_rfl) (Qt.gtr rfl rfl) ?_ (Runs.guard rfl rfl rfl (f2))
          refine RH.q hh (Calm.sq (Calm.sq (Calm.bk (Calm.sq (Calm.lp (Calm.bk (Calm.sq Calm.body))))))) rfl (by kernel_rfl) (Qt.mv rfl) ?_ (Runs.guard rfl rfl rfl (f2))
          refine RH.q hh (Calm.sq (Calm.sq (Calm.bk (Calm.sq (Calm.lp (Calm.bk (Calm.sq Calm.body))))))) rfl (by kernel_rfl) (Qt.mv rfl) ?_ (Runs.guard rfl rfl rfl (f3))
          refine RH.q hh (Calm.sq (Calm.sq (Calm.bk (Calm.sq (Calm.lp (Calm.bk (Calm.sq Calm.body))))))) rfl (by kernel_rfl) (Qt.mv rfl) ?_ (Runs.guard rfl rfl rfl (f3))
          refine RH.q hh (Calm.sq (Calm.sq (Calm.bk (Calm.sq (Calm.lp (Calm.bk (Calm.sq Calm.body))))))) rfl (by kernel_rfl) (Qt.eql rfl rfl) ?_ (Runs.guard rfl rfl rfl (f3))
          refine RH.q hh (Calm.sq (Calm.sq (Calm.bk (Calm.sq (Calm.lp (Calm.bk (Calm.sq Calm.body))))))) rfl (by kernel_rfl) ((by first | exact Qt.pickT rfl (by assumption) rfl | exact Qt.pickF rfl (by assumption) rfl | exact Qt.pickT rfl rfl rfl | exact Qt.pickF rfl rfl rfl)) ?_ (Runs.guard rfl rfl rfl (f2))
          refine RH.q hh (Calm.sq (Calm.sq (Calm.bk (Calm.sq (Calm.lp (Calm.bk (Calm.sq Calm.body))))))) rfl (by kernel_rfl) (Qt.mv rfl) ?_ (Runs.guard rfl rfl rfl (f2))
          refine RH.q hh (Calm.sq (Calm.sq (Calm.bk (Calm.sq (Calm.lp (Calm.bk (Calm.sq Calm.body))))))) rfl (by kernel_rfl) (Qt.mv rfl) ?_ (Runs.guard rfl rfl rfl (f4))
          refine RH.q hh (Calm.sq (Calm.sq (Calm.bk (Calm.sq (Calm.lp (Calm.bk (Calm.sq Calm.body))))))) rfl (by kernel_rfl) (Qt.mv rfl) ?_ (Runs.guard rfl rfl rfl (f4))
          refine RH.q hh (Calm.sq (Calm.sq (Calm.bk (Calm.sq (Calm.lp (Calm.bk (Calm.sq Calm.body))))))) rfl (by kernel_rfl) (Qt.lss rfl rfl) ?_ (Runs.guard rfl rfl rfl (f4))
          refine RH.q hh (Calm.sq (Calm.sq (Calm.bk (Calm.sq (Calm.lp (Calm.bk (Calm.sq Calm.body))))))) rfl (by kernel_rfl) (Qt.mv rfl) ?_ (Runs.guard rfl rfl rfl (f4))
          refine RH.q hh (Calm.sq (Calm.sq (Calm.bk (Calm.sq (Calm.lp (Calm.bk (Calm.sq Calm.body))))))) rfl (by kernel_rfl) (Qt.mv rfl) ?_ (Runs.guard rfl rfl rfl (f5))
          refine RH.q hh (Calm.sq (Calm.sq (Calm.bk (Calm.sq (Calm.lp (Calm.bk (Calm.sq Calm.body))))))) rfl (by kernel_rfl) (Qt.mv rfl) ?_ (Runs.guard rfl rfl rfl (f5))
          refine RH.q hh (Calm.sq (Calm.sq (Calm.bk (Calm.sq (Calm.lp (Calm.bk (Calm.sq Calm.body))))))) rfl (by kernel_rfl) (Qt.eql rfl rfl) ?_ (Runs.guard rfl rfl rfl (f5))
          refine RH.q hh (Calm.sq (Calm.sq (Calm.bk (Calm.sq (Calm.lp (Calm.bk (Calm.sq Calm.body))))))) rfl (by kernel_rfl) (Qt.mv rfl) ?_ (Runs.guard rfl rfl rfl (f5))
          refine RH.q hh (Calm.sq (Calm.sq (Calm.bk (Calm.sq (Calm.lp (Calm.bk (Calm.sq Calm.body))))))) rfl (by kernel_rfl) (Qt.mv rfl) ?_ (Runs.guard rfl rfl rfl (f6))
          refine RH.q hh (Calm.sq (Calm.sq (Calm.bk (Calm.sq (Calm.lp (Calm.bk (Calm.sq Calm.body))))))) rfl (by kernel_rfl) (Qt.mv rfl) ?_ (Runs.guard rfl rfl rfl (f6))
          refine RH.q hh (Calm.sq (Calm.sq (Calm.bk (Calm.sq (Calm.lp (Calm.bk (Calm.sq Calm.body))))))) rfl (by kernel_rfl) (Qt.ixS rfl rfl (by first | assumption | omega | (dsimp only; omega)) (by first | assumption | omega | (dsimp only; omega))) ?_ (Runs.guard rfl rfl rfl (f6))
          refine RH.q hh (Calm.sq (Calm.sq (Calm.bk (Calm.sq (Calm.lp (Calm.bk (Calm.sq Calm.body))))))) rfl (by kernel_rfl) (Qt.ld rfl (fun w hw => by rw [hw]; exact hS.get 1 rfl) (by first | exact hck | exact hckp | rfl)) ?_ (Runs.guard rfl rfl rfl (f6))
          refine RH.q hh (Calm.sq (Calm.sq (Calm.bk (Calm.sq (Calm.lp (Calm.bk (Calm.sq Calm.body))))))) rfl (by kernel_rfl) (Qt.mv rfl) ?_ (Runs.guard rfl rfl rfl (f6))
          refine RH.q hh (Calm.sq (Calm.sq (Calm.bk (Calm.sq (Calm.lp (Calm.bk (Calm.sq Calm.body))))))) rfl (by kernel_rfl) (Qt.mv rfl) ?_ (Runs.guard rfl rfl rfl (f6))
          refine RH.q hh (Calm.sq (Calm.sq (Calm.bk (Calm.sq (Calm.lp (Calm.bk (Calm.sq Calm.body))))))) rfl (by kernel_rfl) ((by first | exact Qt.subI rfl rfl (by dsimp only [inK]; omega) | exact Qt.sub rfl rfl)) ?_ (Runs.guard rfl rfl rfl (f6))
          refine RH.q hh (Calm.sq (Calm.sq (Calm.bk (Calm.sq (Calm.lp (Calm.bk (Calm.sq Calm.body))))))) rfl (by kernel_rfl) (Qt.ixS rfl rfl (by first | assumption | omega | (dsimp only; omega)) (by first | assumption | omega | (dsimp only; omega))) ?_ (Runs.guard rfl rfl rfl (f6))
          refine RH.q hh (Calm.sq (Calm.sq (Calm.bk (Calm.sq (Calm.lp (Calm.bk (Calm.sq Calm.body))))))) rfl (by kernel_rfl) (Qt.ld rfl (fun w hw => by rw [hw]; exact hS.get 1 rfl) (by first | exact hck | exact hckp | rfl)) ?_ (Runs.guard rfl rfl rfl (f6))
          refine RH.q hh (Calm.sq (Calm.sq (Calm.bk (Calm.sq (Calm.lp (Calm.bk (Calm.sq Calm.body))))))) rfl (by kernel_rfl) (Qt.lss rfl rfl) ?_ (Runs.guard rfl rfl rfl (f6))
          refine RH.q hh (Calm.sq (Calm.sq (Calm.bk (Calm.sq (Calm.lp (Calm.bk (Calm.sq Calm.body))))))) rfl (by kernel_rfl) ((by first | exact Qt.pickT rfl (by assumption) rfl | exact Qt.pickF rfl (by assumption) rfl | exact Qt.pickT rfl rfl rfl | exact Qt.pickF rfl rfl rfl)) ?_ (Runs.guard rfl rfl rfl (f5))
          refine RH.q hh (Calm.sq (Calm.sq (Calm.bk (Calm.sq (Calm.lp (Calm.bk (Calm.sq Calm.body))))))) rfl (by kernel_rfl) ((by first | exact Qt.pickT rfl (by assumption) rfl | exact Qt.pickF rfl (by assumption) rfl | exact Qt.pickT rfl rfl rfl | exact Qt.pickF rfl rfl rfl)) ?_ (Runs.guard rfl rfl rfl (f4))
          refine RH.q hh (Calm.sq (Calm.sq (Calm.bk (Calm.sq (Calm.lp (Calm.bk (Calm.sq Calm.body))))))) rfl (by kernel_rfl) ((by first | exact Qt.pickT rfl (by assumption) rfl | exact Qt.pickF rfl (by assumption) rfl | exact Qt.pickT rfl rfl rfl | exact Qt.pickF rfl rfl rfl)) ?_ (Runs.guard rfl rfl rfl (f2))
          refine RH.q hh (Calm.sq (Calm.sq (Calm.bk (Calm.sq (Calm.lp (Calm.bk (Calm.sq Calm.body))))))) rfl (by kernel_rfl) ((by first | exact Qt.pickT rfl (by assumption) rfl | exact Qt.pickF rfl (by assumption) rfl | exact Qt.pickT rfl rfl rfl | exact Qt.pickF rfl rfl rfl)) ?_
          refine RH.done hh (by kernel_rfl) ?_
          refine RL.nil ?_
          refine RE.sqN ?_
          -- stops: cond
          refine RC.condF rfl (f7) ?_
          refine RC.skip ?_
          refine RE.sqN ?_
          refine RC.region rfl ?_
          refine RL.q (Qt.mv rfl) ?_
          refine RL.q (Qt.mv rfl) ?_
          refine RL.q (Qt.as rfl) ?_
          refine RL.q (Qt.as rfl) ?_
          refine RL.nil ?_
          refine RE.bkN ?_
          refine RE.sqN ?_
          refine RC.region rfl ?_
          refine RL.q (Qt.mv rfl) ?_
          refine RL.q ((by first | exact Qt.addI rfl rfl (by dsimp only [inK]; omega) | exact Qt.add rfl rfl)) ?_
          refine RL.q (Qt.as rfl) ?_
          refine RL.nil ?_
          -- stops: next
          have hS := (hS.pick [1, 0, 2, 3] (by decide) rfl).ownMk (cap := cap) (n := (pIds l).length) (sz := 1) (cs := ints (pIds l)) 0 rfl hc1 hc2 hc3 hc4
          apply RE.lpN ((k + 1, l[k].dl, l[k].sq))
          case hI => exact ⟨rfl, hlt, hS, .inr ⟨hlt, by dsimp only; omega, rfl, rfl⟩⟩
          case hs => (repeat (first | exact Sub.nil | refine Sub.cons rfl ?_))
          case hm =>
            show l.length - (k + 1) < l.length - k
            omega
        · have f6 : decide (l[k].sq = l[k - 1].sq) = false := decide_eq_false h6
          refine RC.drawn 50 [0, 1, 2, 3, 4, 5, 6, 7, 8, 9, 10, 11, 12, 13, 14, 15, 16, 17, 18, 19, 20, 21, 22, 23, 24, 25, 26, 27, 28, 29, 30, 31, 32, 33, 34, 35, 36, 37, 38, 39, 40, 41, 42, 43, 44, 45, 46, 47, 48, 49] (Same _) (by kernel_rfl) (by kernel_rfl) Same.drew (fun hh => ?_)
          replace hS := hS.drew
          refine RH.q hh (Calm.sq (Calm.sq (Calm.bk (Calm.sq (Calm.lp (Calm.bk (Calm.sq Calm.body))))))) rfl (by kernel_rfl) (Qt.mv rfl) ?_
          refine RH.q hh (Calm.sq (Calm.sq (Calm.bk (Calm.sq (Calm.lp (Calm.bk (Calm.sq Calm.body))))))) rfl (by kernel_rfl) (Qt.not rfl) ?_
          refine RH.q hh (Calm.sq (Calm.sq (Calm.bk (Calm.sq (Calm.lp (Calm.bk (Calm.sq Calm.body))))))) rfl (by kernel_rfl) (Qt.mv rfl) ?_
          refine RH.q hh (Calm.sq (Calm.sq (Calm.bk (Calm.sq (Calm.lp (Calm.bk (Calm.sq Calm.body))))))) rfl (by kernel_rfl) (Qt.mv rfl) ?_ (Runs.guard rfl rfl rfl (rfl))
          refine RH.q hh (Calm.sq (Calm.sq (Calm.bk (Calm.sq (Calm.lp (Calm.bk (Calm.sq Calm.body))))))) rfl (by kernel_rfl) (Qt.not rfl) ?_ (Runs.guard rfl rfl rfl (rfl))
          refine RH.q hh (Calm.sq (Calm.sq (Calm.bk (Calm.sq (Calm.lp (Calm.bk (Calm.sq Calm.body))))))) rfl (by kernel_rfl) ((by first | exact Qt.pickT rfl (by assumption) rfl | exact Qt.pickF rfl (by assumption) rfl | exact Qt.pickT rfl rfl rfl | exact Qt.pickF rfl rfl rfl)) ?_
          refine RH.q hh (Calm.sq (Calm.sq (Calm.bk (Calm.sq (Calm.lp (Calm.bk (Calm.sq Calm.body))))))) rfl (by kernel_rfl) (Qt.mv rfl) ?_
          refine RH.q hh (Calm.sq (Calm.sq (Calm.bk (Calm.sq (Calm.lp (Calm.bk (Calm.sq Calm.body))))))) rfl (by kernel_rfl) (Qt.mv rfl) ?_ (Runs.guard rfl rfl rfl (rfl))
          refine RH.q hh (Calm.sq (Calm.sq (Calm.bk (Calm.sq (Calm.lp (Calm.bk (Calm.sq Calm.body))))))) rfl (by kernel_rfl) (Qt.mv rfl) ?_ (Runs.guard rfl rfl rfl (rfl))
          refine RH.q hh (Calm.sq (Calm.sq (Calm.bk (Calm.sq (Calm.lp (Calm.bk (Calm.sq Calm.body))))))) rfl (by kernel_rfl) (Qt.mv rfl) ?_ (Runs.guard rfl rfl rfl (rfl))
          refine RH.q hh (Calm.sq (Calm.sq (Calm.bk (Calm.sq (Calm.lp (Calm.bk (Calm.sq Calm.body))))))) rfl (by kernel_rfl) (Qt.ixS rfl rfl (by first | assumption | omega | (dsimp only; omega)) (by first | assumption | omega | (dsimp only; omega))) ?_ (Runs.guard rfl rfl rfl (rfl))
          refine RH.q hh (Calm.sq (Calm.sq (Calm.bk (Calm.sq (Calm.lp (Calm.bk (Calm.sq Calm.body))))))) rfl (by kernel_rfl) (Qt.ld rfl (fun w hw => by rw [hw]; exact hS.get 1 rfl) (by first | exact hck | rfl)) ?_ (Runs.guard rfl rfl rfl (rfl))
          refine RH.q hh (Calm.sq (Calm.sq (Calm.bk (Calm.sq (Calm.lp (Calm.bk (Calm.sq Calm.body))))))) rfl (by kernel_rfl) (Qt.neq rfl rfl) ?_ (Runs.guard rfl rfl rfl (rfl))
          refine RH.q hh (Calm.sq (Calm.sq (Calm.bk (Calm.sq (Calm.lp (Calm.bk (Calm.sq Calm.body))))))) rfl (by kernel_rfl) ((by first | exact Qt.pickT rfl (by assumption) rfl | exact Qt.pickF rfl (by assumption) rfl | exact Qt.pickT rfl rfl rfl | exact Qt.pickF rfl rfl rfl)) ?_
          refine RH.q hh (Calm.sq (Calm.sq (Calm.bk (Calm.sq (Calm.lp (Calm.bk (Calm.sq Calm.body))))))) rfl (by kernel_rfl) (Qt.mv rfl) ?_
          refine RH.q hh (Calm.sq (Calm.sq (Calm.bk (Calm.sq (Calm.lp (Calm.bk (Calm.sq Calm.body))))))) rfl (by kernel_rfl) (Qt.mv rfl) ?_ (Runs.guard rfl rfl rfl (f1))
          refine RH.q hh (Calm.sq (Calm.sq (Calm.bk (Calm.sq (Calm.lp (Calm.bk (Calm.sq Calm.body))))))) rfl (by kernel_rfl) (Qt.mv rfl) ?_ (Runs.guard rfl rfl rfl (f1))
          refine RH.q hh (Calm.sq (Calm.sq (Calm.bk (Calm.sq (Calm.lp (Calm.bk (Calm.sq Calm.body))))))) rfl (by kernel_rfl) (Qt.lss rfl rfl) ?_ (Runs.guard rfl rfl rfl (f1))
          refine RH.q hh (Calm.sq (Calm.sq (Calm.bk (Calm.sq (Calm.lp (Calm.bk (Calm.sq Calm.body))))))) rfl (by kernel_rfl) ((by first | exact Qt.pickT rfl (by assumption) rfl | exact Qt.pickF rfl (by assumption) rfl | exact Qt.pickT rfl rfl rfl | exact Qt.pickF rfl rfl rfl)) ?_
          refine RH.q hh (Calm.sq (Calm.sq (Calm.bk (Calm.sq (Calm.lp (Calm.bk (Calm.sq Calm.body))))))) rfl (by kernel_rfl) (Qt.mv rfl) ?_
          refine RH.q hh (Calm.sq (Calm.sq (Calm.bk (Calm.sq (Calm.lp (Calm.bk (Calm.sq Calm.body))))))) rfl (by kernel_rfl) (Qt.mv rfl) ?_ (Runs.guard rfl rfl rfl (f2))
          refine RH.q hh (Calm.sq (Calm.sq (Calm.bk (Calm.sq (Calm.lp (Calm.bk (Calm.sq Calm.body))))))) rfl (by kernel_rfl) (Qt.gtr rfl rfl) ?_ (Runs.guard rfl rfl rfl (f2))
          refine RH.q hh (Calm.sq (Calm.sq (Calm.bk (Calm.sq (Calm.lp (Calm.bk (Calm.sq Calm.body))))))) rfl (by kernel_rfl) (Qt.mv rfl) ?_ (Runs.guard rfl rfl rfl (f2))
          refine RH.q hh (Calm.sq (Calm.sq (Calm.bk (Calm.sq (Calm.lp (Calm.bk (Calm.sq Calm.body))))))) rfl (by kernel_rfl) (Qt.mv rfl) ?_ (Runs.guard rfl rfl rfl (f3))
          refine RH.q hh (Calm.sq (Calm.sq (Calm.bk (Calm.sq (Calm.lp (Calm.bk (Calm.sq Calm.body))))))) rfl (by kernel_rfl) (Qt.mv rfl) ?_ (Runs.guard rfl rfl rfl (f3))
          refine RH.q hh (Calm.sq (Calm.sq (Calm.bk (Calm.sq (Calm.lp (Calm.bk (Calm.sq Calm.body))))))) rfl (by kernel_rfl) (Qt.eql rfl rfl) ?_ (Runs.guard rfl rfl rfl (f3))
          refine RH.q hh (Calm.sq (Calm.sq (Calm.bk (Calm.sq (Calm.lp (Calm.bk (Calm.sq Calm.body))))))) rfl (by kernel_rfl) ((by first | exact Qt.pickT rfl (by assumption) rfl | exact Qt.pickF rfl (by assumption) rfl | exact Qt.pickT rfl rfl rfl | exact Qt.pickF rfl rfl rfl)) ?_ (Runs.guard rfl rfl rfl (f2))
          refine RH.q hh (Calm.sq (Calm.sq (Calm.bk (Calm.sq (Calm.lp (Calm.bk (Calm.sq Calm.body))))))) rfl (by kernel_rfl) (Qt.mv rfl) ?_ (Runs.guard rfl rfl rfl (f2))
          refine RH.q hh (Calm.sq (Calm.sq (Calm.bk (Calm.sq (Calm.lp (Calm.bk (Calm.sq Calm.body))))))) rfl (by kernel_rfl) (Qt.mv rfl) ?_ (Runs.guard rfl rfl rfl (f4))
          refine RH.q hh (Calm.sq (Calm.sq (Calm.bk (Calm.sq (Calm.lp (Calm.bk (Calm.sq Calm.body))))))) rfl (by kernel_rfl) (Qt.mv rfl) ?_ (Runs.guard rfl rfl rfl (f4))
          refine RH.q hh (Calm.sq (Calm.sq (Calm.bk (Calm.sq (Calm.lp (Calm.bk (Calm.sq Calm.body))))))) rfl (by kernel_rfl) (Qt.lss rfl rfl) ?_ (Runs.guard rfl rfl rfl (f4))
          refine RH.q hh (Calm.sq (Calm.sq (Calm.bk (Calm.sq (Calm.lp (Calm.bk (Calm.sq Calm.body))))))) rfl (by kernel_rfl) (Qt.mv rfl) ?_ (Runs.guard rfl rfl rfl (f4))
          refine RH.q hh (Calm.sq (Calm.sq (Calm.bk (Calm.sq (Calm.lp (Calm.bk (Calm.sq Calm.body))))))) rfl (by kernel_rfl) (Qt.mv rfl) ?_ (Runs.guard rfl rfl rfl (f5))
          refine RH.q hh (Calm.sq (Calm.sq (Calm.bk (Calm.sq (Calm.lp (Calm.bk (Calm.sq Calm.body))))))) rfl (by kernel_rfl) (Qt.mv rfl) ?_ (Runs.guard rfl rfl rfl (f5))
          refine RH.q hh (Calm.sq (Calm.sq (Calm.bk (Calm.sq (Calm.lp (Calm.bk (Calm.sq Calm.body))))))) rfl (by kernel_rfl) (Qt.eql rfl rfl) ?_ (Runs.guard rfl rfl rfl (f5))
          refine RH.q hh (Calm.sq (Calm.sq (Calm.bk (Calm.sq (Calm.lp (Calm.bk (Calm.sq Calm.body))))))) rfl (by kernel_rfl) (Qt.mv rfl) ?_ (Runs.guard rfl rfl rfl (f5))
          refine RH.s hh (Calm.sq (Calm.sq (Calm.bk (Calm.sq (Calm.lp (Calm.bk (Calm.sq Calm.body))))))) rfl (by kernel_rfl) (Skips.guard rfl rfl rfl (f6)) ?_
          refine RH.s hh (Calm.sq (Calm.sq (Calm.bk (Calm.sq (Calm.lp (Calm.bk (Calm.sq Calm.body))))))) rfl (by kernel_rfl) (Skips.guard rfl rfl rfl (f6)) ?_
          refine RH.s hh (Calm.sq (Calm.sq (Calm.bk (Calm.sq (Calm.lp (Calm.bk (Calm.sq Calm.body))))))) rfl (by kernel_rfl) (Skips.guard rfl rfl rfl (f6)) ?_
          refine RH.s hh (Calm.sq (Calm.sq (Calm.bk (Calm.sq (Calm.lp (Calm.bk (Calm.sq Calm.body))))))) rfl (by kernel_rfl) (Skips.guard rfl rfl rfl (f6)) ?_
          refine RH.s hh (Calm.sq (Calm.sq (Calm.bk (Calm.sq (Calm.lp (Calm.bk (Calm.sq Calm.body))))))) rfl (by kernel_rfl) (Skips.guard rfl rfl rfl (f6)) ?_
          refine RH.s hh (Calm.sq (Calm.sq (Calm.bk (Calm.sq (Calm.lp (Calm.bk (Calm.sq Calm.body))))))) rfl (by kernel_rfl) (Skips.guard rfl rfl rfl (f6)) ?_
          refine RH.s hh (Calm.sq (Calm.sq (Calm.bk (Calm.sq (Calm.lp (Calm.bk (Calm.sq Calm.body))))))) rfl (by kernel_rfl) (Skips.guard rfl rfl rfl (f6)) ?_
          refine RH.s hh (Calm.sq (Calm.sq (Calm.bk (Calm.sq (Calm.lp (Calm.bk (Calm.sq Calm.body))))))) rfl (by kernel_rfl) (Skips.guard rfl rfl rfl (f6)) ?_
          refine RH.s hh (Calm.sq (Calm.sq (Calm.bk (Calm.sq (Calm.lp (Calm.bk (Calm.sq Calm.body))))))) rfl (by kernel_rfl) (Skips.guard rfl rfl rfl (f6)) ?_
          refine RH.s hh (Calm.sq (Calm.sq (Calm.bk (Calm.sq (Calm.lp (Calm.bk (Calm.sq Calm.body))))))) rfl (by kernel_rfl) (Skips.guard rfl rfl rfl (f6)) ?_
          refine RH.q hh (Calm.sq (Calm.sq (Calm.bk (Calm.sq (Calm.lp (Calm.bk (Calm.sq Calm.body))))))) rfl (by kernel_rfl) ((by first | exact Qt.pickT rfl (by assumption) rfl | exact Qt.pickF rfl (by assumption) rfl | exact Qt.pickT rfl rfl rfl | exact Qt.pickF rfl rfl rfl)) ?_ (Runs.guard rfl rfl rfl (f5))
          refine RH.q hh (Calm.sq (Calm.sq (Calm.bk (Calm.sq (Calm.lp (Calm.bk (Calm.sq Calm.body))))))) rfl (by kernel_rfl) ((by first | exact Qt.pickT rfl (by assumption) rfl | exact Qt.pickF rfl (by assumption) rfl | exact Qt.pickT rfl rfl rfl | exact Qt.pickF rfl rfl rfl)) ?_ (Runs.guard rfl rfl rfl (f4))
          refine RH.q hh (Calm.sq (Calm.sq (Calm.bk (Calm.sq (Calm.lp (Calm.bk (Calm.sq Calm.body))))))) rfl (by kernel_rfl) ((by first | exact Qt.pickT rfl (by assumption) rfl | exact Qt.pickF rfl (by assumption) rfl | exact Qt.pickT rfl rfl rfl | exact Qt.pickF rfl rfl rfl)) ?_ (Runs.guard rfl rfl rfl (f2))
          refine RH.q hh (Calm.sq (Calm.sq (Calm.bk (Calm.sq (Calm.lp (Calm.bk (Calm.sq Calm.body))))))) rfl (by kernel_rfl) ((by first | exact Qt.pickT rfl (by assumption) rfl | exact Qt.pickF rfl (by assumption) rfl | exact Qt.pickT rfl rfl rfl | exact Qt.pickF rfl rfl rfl)) ?_
          refine RH.done hh (by kernel_rfl) ?_
          refine RL.nil ?_
          refine RE.sqN ?_
          -- stops: cond
          refine RC.condF rfl (rfl) ?_
          refine RC.skip ?_
          refine RE.sqN ?_
          refine RC.region rfl ?_
          refine RL.q (Qt.mv rfl) ?_
          refine RL.q (Qt.mv rfl) ?_
          refine RL.q (Qt.as rfl) ?_
          refine RL.q (Qt.as rfl) ?_
          refine RL.nil ?_
          refine RE.bkN ?_
          refine RE.sqN ?_
          refine RC.region rfl ?_
          refine RL.q (Qt.mv rfl) ?_
          refine RL.q ((by first | exact Qt.addI rfl rfl (by dsimp only [inK]; omega) | exact Qt.add rfl rfl)) ?_
          refine RL.q (Qt.as rfl) ?_
          refine RL.nil ?_
          -- stops: next
          have hS := (hS.pick [1, 0, 2, 3] (by decide) rfl).ownMk (cap := cap) (n := (pIds l).length) (sz := 1) (cs := ints (pIds l)) 0 rfl hc1 hc2 hc3 hc4
          apply RE.lpN ((k + 1, l[k].dl, l[k].sq))
          case hI => exact ⟨rfl, hlt, hS, .inr ⟨hlt, by dsimp only; omega, rfl, rfl⟩⟩
          case hs => (repeat (first | exact Sub.nil | refine Sub.cons rfl ?_))
          case hm =>
            show l.length - (k + 1) < l.length - k
            omega
      · have f4 : decide (l[k].dl = l[k - 1].dl) = false := decide_eq_false h4
        refine RC.drawn 50 [0, 1, 2, 3, 4, 5, 6, 7, 8, 9, 10, 11, 12, 13, 14, 15, 16, 17, 18, 19, 20, 21, 22, 23, 24, 25, 26, 27, 28, 29, 30, 31, 32, 33, 34, 35, 36, 37, 38, 39, 40, 41, 42, 43, 44, 45, 46, 47, 48, 49] (Same _) (by kernel_rfl) (by kernel_rfl) Same.drew (fun hh => ?_)
        replace hS := hS.drew
        refine RH.q hh (Calm.sq (Calm.sq (Calm.bk (Calm.sq (Calm.lp (Calm.bk (Calm.sq Calm.body))))))) rfl (by kernel_rfl) (Qt.mv rfl) ?_
        refine RH.q hh (Calm.sq (Calm.sq (Calm.bk (Calm.sq (Calm.lp (Calm.bk (Calm.sq Calm.body))))))) rfl (by kernel_rfl) (Qt.not rfl) ?_
        refine RH.q hh (Calm.sq (Calm.sq (Calm.bk (Calm.sq (Calm.lp (Calm.bk (Calm.sq Calm.body))))))) rfl (by kernel_rfl) (Qt.mv rfl) ?_
        refine RH.q hh (Calm.sq (Calm.sq (Calm.bk (Calm.sq (Calm.lp (Calm.bk (Calm.sq Calm.body))))))) rfl (by kernel_rfl) (Qt.mv rfl) ?_ (Runs.guard rfl rfl rfl (rfl))
        refine RH.q hh (Calm.sq (Calm.sq (Calm.bk (Calm.sq (Calm.lp (Calm.bk (Calm.sq Calm.body))))))) rfl (by kernel_rfl) (Qt.not rfl) ?_ (Runs.guard rfl rfl rfl (rfl))
        refine RH.q hh (Calm.sq (Calm.sq (Calm.bk (Calm.sq (Calm.lp (Calm.bk (Calm.sq Calm.body))))))) rfl (by kernel_rfl) ((by first | exact Qt.pickT rfl (by assumption) rfl | exact Qt.pickF rfl (by assumption) rfl | exact Qt.pickT rfl rfl rfl | exact Qt.pickF rfl rfl rfl)) ?_
        refine RH.q hh (Calm.sq (Calm.sq (Calm.bk (Calm.sq (Calm.lp (Calm.bk (Calm.sq Calm.body))))))) rfl (by kernel_rfl) (Qt.mv rfl) ?_
        refine RH.q hh (Calm.sq (Calm.sq (Calm.bk (Calm.sq (Calm.lp (Calm.bk (Calm.sq Calm.body))))))) rfl (by kernel_rfl) (Qt.mv rfl) ?_ (Runs.guard rfl rfl rfl (rfl))
        refine RH.q hh (Calm.sq (Calm.sq (Calm.bk (Calm.sq (Calm.lp (Calm.bk (Calm.sq Calm.body))))))) rfl (by kernel_rfl) (Qt.mv rfl) ?_ (Runs.guard rfl rfl rfl (rfl))
        refine RH.q hh (Calm.sq (Calm.sq (Calm.bk (Calm.sq (Calm.lp (Calm.bk (Calm.sq Calm.body))))))) rfl (by kernel_rfl) (Qt.mv rfl) ?_ (Runs.guard rfl rfl rfl (rfl))
        refine RH.q hh (Calm.sq (Calm.sq (Calm.bk (Calm.sq (Calm.lp (Calm.bk (Calm.sq Calm.body))))))) rfl (by kernel_rfl) (Qt.ixS rfl rfl (by first | assumption | omega | (dsimp only; omega)) (by first | assumption | omega | (dsimp only; omega))) ?_ (Runs.guard rfl rfl rfl (rfl))
        refine RH.q hh (Calm.sq (Calm.sq (Calm.bk (Calm.sq (Calm.lp (Calm.bk (Calm.sq Calm.body))))))) rfl (by kernel_rfl) (Qt.ld rfl (fun w hw => by rw [hw]; exact hS.get 1 rfl) (by first | exact hck | rfl)) ?_ (Runs.guard rfl rfl rfl (rfl))
        refine RH.q hh (Calm.sq (Calm.sq (Calm.bk (Calm.sq (Calm.lp (Calm.bk (Calm.sq Calm.body))))))) rfl (by kernel_rfl) (Qt.neq rfl rfl) ?_ (Runs.guard rfl rfl rfl (rfl))
        refine RH.q hh (Calm.sq (Calm.sq (Calm.bk (Calm.sq (Calm.lp (Calm.bk (Calm.sq Calm.body))))))) rfl (by kernel_rfl) ((by first | exact Qt.pickT rfl (by assumption) rfl | exact Qt.pickF rfl (by assumption) rfl | exact Qt.pickT rfl rfl rfl | exact Qt.pickF rfl rfl rfl)) ?_
        refine RH.q hh (Calm.sq (Calm.sq (Calm.bk (Calm.sq (Calm.lp (Calm.bk (Calm.sq Calm.body))))))) rfl (by kernel_rfl) (Qt.mv rfl) ?_
        refine RH.q hh (Calm.sq (Calm.sq (Calm.bk (Calm.sq (Calm.lp (Calm.bk (Calm.sq Calm.body))))))) rfl (by kernel_rfl) (Qt.mv rfl) ?_ (Runs.guard rfl rfl rfl (f1))
        refine RH.q hh (Calm.sq (Calm.sq (Calm.bk (Calm.sq (Calm.lp (Calm.bk (Calm.sq Calm.body))))))) rfl (by kernel_rfl) (Qt.mv rfl) ?_ (Runs.guard rfl rfl rfl (f1))
        refine RH.q hh (Calm.sq (Calm.sq (Calm.bk (Calm.sq (Calm.lp (Calm.bk (Calm.sq Calm.body))))))) rfl (by kernel_rfl) (Qt.lss rfl rfl) ?_ (Runs.guard rfl rfl rfl (f1))
        refine RH.q hh (Calm.sq (Calm.sq (Calm.bk (Calm.sq (Calm.lp (Calm.bk (Calm.sq Calm.body))))))) rfl (by kernel_rfl) ((by first | exact Qt.pickT rfl (by assumption) rfl | exact Qt.pickF rfl (by assumption) rfl | exact Qt.pickT rfl rfl rfl | exact Qt.pickF rfl rfl rfl)) ?_
        refine RH.q hh (Calm.sq (Calm.sq (Calm.bk (Calm.sq (Calm.lp (Calm.bk (Calm.sq Calm.body))))))) rfl (by kernel_rfl) (Qt.mv rfl) ?_
        refine RH.q hh (Calm.sq (Calm.sq (Calm.bk (Calm.sq (Calm.lp (Calm.bk (Calm.sq Calm.body))))))) rfl (by kernel_rfl) (Qt.mv rfl) ?_ (Runs.guard rfl rfl rfl (f2))
        refine RH.q hh (Calm.sq (Calm.sq (Calm.bk (Calm.sq (Calm.lp (Calm.bk (Calm.sq Calm.body))))))) rfl (by kernel_rfl) (Qt.gtr rfl rfl) ?_ (Runs.guard rfl rfl rfl (f2))
        refine RH.q hh (Calm.sq (Calm.sq (Calm.bk (Calm.sq (Calm.lp (Calm.bk (Calm.sq Calm.body))))))) rfl (by kernel_rfl) (Qt.mv rfl) ?_ (Runs.guard rfl rfl rfl (f2))
        refine RH.q hh (Calm.sq (Calm.sq (Calm.bk (Calm.sq (Calm.lp (Calm.bk (Calm.sq Calm.body))))))) rfl (by kernel_rfl) (Qt.mv rfl) ?_ (Runs.guard rfl rfl rfl (f3))
        refine RH.q hh (Calm.sq (Calm.sq (Calm.bk (Calm.sq (Calm.lp (Calm.bk (Calm.sq Calm.body))))))) rfl (by kernel_rfl) (Qt.mv rfl) ?_ (Runs.guard rfl rfl rfl (f3))
        refine RH.q hh (Calm.sq (Calm.sq (Calm.bk (Calm.sq (Calm.lp (Calm.bk (Calm.sq Calm.body))))))) rfl (by kernel_rfl) (Qt.eql rfl rfl) ?_ (Runs.guard rfl rfl rfl (f3))
        refine RH.q hh (Calm.sq (Calm.sq (Calm.bk (Calm.sq (Calm.lp (Calm.bk (Calm.sq Calm.body))))))) rfl (by kernel_rfl) ((by first | exact Qt.pickT rfl (by assumption) rfl | exact Qt.pickF rfl (by assumption) rfl | exact Qt.pickT rfl rfl rfl | exact Qt.pickF rfl rfl rfl)) ?_ (Runs.guard rfl rfl rfl (f2))
        refine RH.q hh (Calm.sq (Calm.sq (Calm.bk (Calm.sq (Calm.lp (Calm.bk (Calm.sq Calm.body))))))) rfl (by kernel_rfl) (Qt.mv rfl) ?_ (Runs.guard rfl rfl rfl (f2))
        refine RH.s hh (Calm.sq (Calm.sq (Calm.bk (Calm.sq (Calm.lp (Calm.bk (Calm.sq Calm.body))))))) rfl (by kernel_rfl) (Skips.guard rfl rfl rfl (f4)) ?_
        refine RH.s hh (Calm.sq (Calm.sq (Calm.bk (Calm.sq (Calm.lp (Calm.bk (Calm.sq Calm.body))))))) rfl (by kernel_rfl) (Skips.guard rfl rfl rfl (f4)) ?_
        refine RH.s hh (Calm.sq (Calm.sq (Calm.bk (Calm.sq (Calm.lp (Calm.bk (Calm.sq Calm.body))))))) rfl (by kernel_rfl) (Skips.guard rfl rfl rfl (f4)) ?_
        refine RH.s hh (Calm.sq (Calm.sq (Calm.bk (Calm.sq (Calm.lp (Calm.bk (Calm.sq Calm.body))))))) rfl (by kernel_rfl) (Skips.guard rfl rfl rfl (f4)) ?_
        refine RH.s hh (Calm.sq (Calm.sq (Calm.bk (Calm.sq (Calm.lp (Calm.bk (Calm.sq Calm.body))))))) rfl (by kernel_rfl) (Skips.undef rfl rfl rfl) ?_
        refine RH.s hh (Calm.sq (Calm.sq (Calm.bk (Calm.sq (Calm.lp (Calm.bk (Calm.sq Calm.body))))))) rfl (by kernel_rfl) (Skips.undef rfl rfl rfl) ?_
        refine RH.s hh (Calm.sq (Calm.sq (Calm.bk (Calm.sq (Calm.lp (Calm.bk (Calm.sq Calm.body))))))) rfl (by kernel_rfl) (Skips.undef rfl rfl rfl) ?_
        refine RH.s hh (Calm.sq (Calm.sq (Calm.bk (Calm.sq (Calm.lp (Calm.bk (Calm.sq Calm.body))))))) rfl (by kernel_rfl) (Skips.undef rfl rfl rfl) ?_
        refine RH.s hh (Calm.sq (Calm.sq (Calm.bk (Calm.sq (Calm.lp (Calm.bk (Calm.sq Calm.body))))))) rfl (by kernel_rfl) (Skips.undef rfl rfl rfl) ?_
        refine RH.s hh (Calm.sq (Calm.sq (Calm.bk (Calm.sq (Calm.lp (Calm.bk (Calm.sq Calm.body))))))) rfl (by kernel_rfl) (Skips.undef rfl rfl rfl) ?_
        refine RH.s hh (Calm.sq (Calm.sq (Calm.bk (Calm.sq (Calm.lp (Calm.bk (Calm.sq Calm.body))))))) rfl (by kernel_rfl) (Skips.undef rfl rfl rfl) ?_
        refine RH.s hh (Calm.sq (Calm.sq (Calm.bk (Calm.sq (Calm.lp (Calm.bk (Calm.sq Calm.body))))))) rfl (by kernel_rfl) (Skips.undef rfl rfl rfl) ?_
        refine RH.s hh (Calm.sq (Calm.sq (Calm.bk (Calm.sq (Calm.lp (Calm.bk (Calm.sq Calm.body))))))) rfl (by kernel_rfl) (Skips.undef rfl rfl rfl) ?_
        refine RH.s hh (Calm.sq (Calm.sq (Calm.bk (Calm.sq (Calm.lp (Calm.bk (Calm.sq Calm.body))))))) rfl (by kernel_rfl) (Skips.undef rfl rfl rfl) ?_
        refine RH.s hh (Calm.sq (Calm.sq (Calm.bk (Calm.sq (Calm.lp (Calm.bk (Calm.sq Calm.body))))))) rfl (by kernel_rfl) (Skips.undef rfl rfl rfl) ?_
        refine RH.s hh (Calm.sq (Calm.sq (Calm.bk (Calm.sq (Calm.lp (Calm.bk (Calm.sq Calm.body))))))) rfl (by kernel_rfl) (Skips.undef rfl rfl rfl) ?_
        refine RH.s hh (Calm.sq (Calm.sq (Calm.bk (Calm.sq (Calm.lp (Calm.bk (Calm.sq Calm.body))))))) rfl (by kernel_rfl) (Skips.undef rfl rfl rfl) ?_
        refine RH.s hh (Calm.sq (Calm.sq (Calm.bk (Calm.sq (Calm.lp (Calm.bk (Calm.sq Calm.body))))))) rfl (by kernel_rfl) (Skips.undef rfl rfl rfl) ?_
        refine RH.s hh (Calm.sq (Calm.sq (Calm.bk (Calm.sq (Calm.lp (Calm.bk (Calm.sq Calm.body))))))) rfl (by kernel_rfl) (Skips.undef rfl rfl rfl) ?_
        refine RH.s hh (Calm.sq (Calm.sq (Calm.bk (Calm.sq (Calm.lp (Calm.bk (Calm.sq Calm.body))))))) rfl (by kernel_rfl) (Skips.guard rfl rfl rfl (f4)) ?_
        refine RH.q hh (Calm.sq (Calm.sq (Calm.bk (Calm.sq (Calm.lp (Calm.bk (Calm.sq Calm.body))))))) rfl (by kernel_rfl) ((by first | exact Qt.pickT rfl (by assumption) rfl | exact Qt.pickF rfl (by assumption) rfl | exact Qt.pickT rfl rfl rfl | exact Qt.pickF rfl rfl rfl)) ?_ (Runs.guard rfl rfl rfl (f2))
        refine RH.q hh (Calm.sq (Calm.sq (Calm.bk (Calm.sq (Calm.lp (Calm.bk (Calm.sq Calm.body))))))) rfl (by kernel_rfl) ((by first | exact Qt.pickT rfl (by assumption) rfl | exact Qt.pickF rfl (by assumption) rfl | exact Qt.pickT rfl rfl rfl | exact Qt.pickF rfl rfl rfl)) ?_
        refine RH.done hh (by kernel_rfl) ?_
        refine RL.nil ?_
        refine RE.sqN ?_
        -- stops: cond
        refine RC.condF rfl (rfl) ?_
        refine RC.skip ?_
        refine RE.sqN ?_
        refine RC.region rfl ?_
        refine RL.q (Qt.mv rfl) ?_
        refine RL.q (Qt.mv rfl) ?_
        refine RL.q (Qt.as rfl) ?_
        refine RL.q (Qt.as rfl) ?_
        refine RL.nil ?_
        refine RE.bkN ?_
        refine RE.sqN ?_
        refine RC.region rfl ?_
        refine RL.q (Qt.mv rfl) ?_
        refine RL.q ((by first | exact Qt.addI rfl rfl (by dsimp only [inK]; omega) | exact Qt.add rfl rfl)) ?_
        refine RL.q (Qt.as rfl) ?_
        refine RL.nil ?_
        -- stops: next
        have hS := (hS.pick [1, 0, 2, 3] (by decide) rfl).ownMk (cap := cap) (n := (pIds l).length) (sz := 1) (cs := ints (pIds l)) 0 rfl hc1 hc2 hc3 hc4
        apply RE.lpN ((k + 1, l[k].dl, l[k].sq))
        case hI => exact ⟨rfl, hlt, hS, .inr ⟨hlt, by dsimp only; omega, rfl, rfl⟩⟩
        case hs => (repeat (first | exact Sub.nil | refine Sub.cons rfl ?_))
        case hm =>
          show l.length - (k + 1) < l.length - k
          omega
  · skip
    have hge : l.length ≤ k := by
      have : ¬ (k : Int) < ((pIds l).length : Int) := of_decide_eq_false h2
      omega
    rw [List.drop_of_length_le hge] at hS
    refine RC.exit ?_
    refine RE.sqX ?_
    refine RE.lpX ?_
    refine RE.bkX ?_
    refine RE.sqN ?_
    refine RC.seq ?_
    refine RC.region rfl ?_
    refine RL.q (Qt.mv rfl) ?_
    -- stops: op call
    refine RL.e (Ef.call hS (phMin _ _ _) rfl rfl Try.call35 [1] [0, 2, 3] (by decide) rfl rfl) ?_
    rintro v112 w ⟨ps, ⟨rfl, rfl⟩, hS⟩
    refine RL.q (Qt.mv rfl) ?_
    refine RL.q (Qt.ext rfl rfl) ?_
    refine RL.q (Qt.ext rfl rfl) ?_
    refine RL.q (Qt.as rfl) ?_
    refine RL.nil ?_
    refine RE.sqN ?_
    refine RC.seq ?_
    refine RC.region rfl ?_
    refine RL.q (Qt.mv rfl) ?_
    refine RL.q (Qt.not rfl) ?_
    refine RL.q (Qt.mv rfl) ?_
    -- stops: guard
    refine RL.q (Qt.mv rfl) ?_ (Runs.guard rfl rfl rfl (rfl))
    -- stops: op call
    refine RL.e (Ef.call hS (phLen _ _ _) rfl rfl Try.call33 [0] [1, 2, 3] (by decide) rfl rfl) ?_ (Runs.guard rfl rfl rfl (rfl))
    rintro v119 w ⟨ps, ⟨rfl, rfl⟩, hS⟩
    refine RL.q (Qt.eql rfl rfl) ?_ (Runs.guard rfl rfl rfl (rfl))
    refine RL.q ((by first | exact Qt.pickT rfl (by assumption) rfl | exact Qt.pickF rfl (by assumption) rfl | exact Qt.pickT rfl rfl rfl | exact Qt.pickF rfl rfl rfl)) ?_
    refine RL.q (Qt.as rfl) ?_
    refine RL.nil ?_
    refine RE.sqN ?_
    refine RC.ret ?_
    -- stops: end ret
    exact RE.retB rfl ⟨rfl, rfl⟩ (hS.pick [2, 3] (by decide) rfl)
end Go.Proofs

/- ProcsRoom, for every input: a place of a processor has never more than it may; the arguments read as before. No condition. -/
import Derived.Test.YtieanejabjhnjaaMpf
import Derived.Test.YtieanejabjhnjaaRows
/- The law ProcsRoom answers true. -/
namespace Go.Proofs
open Go Go.Gx
variable {oo : World}

theorem prPut_where {np nt : Nat} {L : List (List KItem)} (hp : PrOk np nt L) {queue : Int} {proc id : Int} {k : KKey} (hk : k.ok) (he : prPutErr L np nt proc id k = 0) : pwOk (prPut L np nt queue proc id k) id = true ∧ pwAt (prPut L np nt queue proc id k) id = (prTo L np queue proc : Nat) := by
  obtain ⟨h1, _, _, _⟩ := prPutErr_is0 (queue := queue) he
  have hlen := hp.len
  have hto : prTo L np queue proc < L.length := by unfold prTo; split <;> omega
  have hp' := hp.put queue (proc := proc) (id := id) hk
  have e : prPut L np nt queue proc id k = L.set (prTo L np queue proc) (kput ⟨id, k⟩ L[prTo L np queue proc]) := by rw [prPut, if_pos he, prUpd_at hto]
  have hpw : pw (prPut L np nt queue proc id k) id = some (prTo L np queue proc) := by
    refine hp'.pw_some (by rw [e, List.length_set]; exact hto) ?_
    simp only [e, List.getElem_set_self]
    exact List.mem_map.2 ⟨⟨id, k⟩, (kput_perm _ _).mem_iff.2 (by simp), rfl⟩
  exact ⟨by rw [pwOk, hpw]; rfl, by rw [pwAt, hpw]⟩

set_option maxHeartbeats 4000000 in
theorem prLawRoom (n : Int) (hn : 0 ≤ n ∧ n ≤ 255) (v : Value) (ds : List ODeed) (x : ODeed) (F0 : Frag) (hR : ODeedsAt v ds F0) (hd : ∀ x ∈ ds, x.ok) (hx : x.ok) : Ct Try.prog 8 #[.int .u8 n, v, x.val] [pin F0] (fun v' ps => v' = .bool true ∧ ps = [pin F0]) := by
  have hnp4 : 1 ≤ prNp n ∧ prNp n ≤ 4 := by unfold prNp; omega
  have hnp : n % 4 + 1 = (prNp n : Nat) := by unfold prNp; omega
  have hqu : 1 ≤ prQu n ∧ n / 4 % 3 + 1 = prQu n := by unfold prQu; omega
  have hkx : x.cells.toArray.extract (0 + 3) (0 + 3 + 3) = x.k.cells.toArray := rfl
  refine Ct.enter Try.func8 rfl (Nat.le_of_ble_eq_true rfl) ?_
  intro oo w R hS
  change RC _ _ _ _ _ _ [(0, _), (1, _), (2, _)] _
  refine RC.seq ?_
  refine RC.region rfl ?_
  refine RL.e (Ef.box hS rfl) ?_
  rintro _ w ⟨b5, rfl, hS⟩
  try simp (disch := omega) only [List.set_cons_zero, List.set_cons_succ, cells_int, cells_bool, cells_ptr, cells_slice, cells_func, cells_agg, cells_map, cells_int', cells_bool', cells_ptr', cells_slice', cells_agg', cells_map', cells_func', Nat.zero_add, wr, List.setIfInBounds_toArray] at hS
  refine RL.q (Qt.as rfl) ?_
  refine RL.nil ?_
  refine RE.sqN ?_
  refine RC.seq ?_
  refine RC.region rfl ?_
  refine RL.q (Qt.mv rfl) ?_
  refine RL.q (Qt.mv rfl) ?_
  refine RL.e (Ef.call hS (prPlay n hn v ds F0 hR hd) rfl rfl Try.call22 [1] [0, 2] (by decide) rfl rfl) ?_
  rintro v19 w ⟨ps, ⟨b, r, L, rfl, hok, hro, rfl⟩, hS⟩
  refine RL.q (Qt.mv rfl) ?_
  refine RL.q (Qt.ext rfl rfl) ?_
  refine RL.q (Qt.ext rfl rfl) ?_
  refine RL.q (Qt.ext rfl rfl) ?_
  refine RL.q (Qt.as rfl) ?_
  refine RL.q (Qt.as rfl) ?_
  refine RL.q (Qt.as rfl) ?_
  refine RL.nil ?_
  refine RE.sqN ?_
  refine RC.seq ?_
  refine RC.seq ?_
  refine RC.region rfl ?_
  have hlen := hok.len
  refine RL.e (Ef.call hS (prLive) rfl rfl Try.call23 [] [0, 1, 2, 3, 4] (by decide) rfl rfl) ?_
  rintro v23 w ⟨ps, ⟨rfl, p', L', rfl⟩, hS⟩
  refine RL.q (Qt.not rfl) ?_
  refine RL.q (Qt.mv rfl) ?_
  refine RLG.start 25 false rfl ?_
  refine RLG.q rfl rfl rfl (fun _ => Qt.mv rfl) ?_
  refine RLG.q rfl rfl rfl (fun _ => Qt.not rfl) ?_
  refine RLG.or rfl rfl ?_
  refine RL.nil ?_
  refine RE.sqN ?_
  refine RC.condF rfl (rfl) ?_
  refine RC.skip ?_
  refine RE.sqN ?_
  refine RC.seq ?_
  refine RC.region rfl ?_
  refine RL.q (Qt.mv rfl) ?_
  refine RL.q ((by exact Qt.cvtI rfl (by dsimp only [inK]; omega))) ?_
  refine RL.q ((by exact Qt.remI rfl rfl (by omega))) ?_
  refine RL.q ((by exact Qt.addI rfl rfl (by dsimp only [inK]; omega))) ?_
  refine RL.q (Qt.mv rfl) ?_
  refine RL.q ((by exact Qt.cvtI rfl (by dsimp only [inK]; omega))) ?_
  refine RL.q ((by exact Qt.quoI rfl rfl (by dsimp only [inK]; omega) (by omega))) ?_
  refine RL.q ((by exact Qt.remI rfl rfl (by omega))) ?_
  refine RL.q ((by exact Qt.addI rfl rfl (by dsimp only [inK]; omega))) ?_
  refine RL.q (Qt.as rfl) ?_
  refine RL.q (Qt.as rfl) ?_
  refine RL.nil ?_
  refine RE.sqN ?_
  refine RC.seq ?_
  refine RC.seq ?_
  refine RC.region rfl ?_
  refine RL.q (Qt.as rfl) ?_
  refine RL.nil ?_
  refine RE.sqN ?_
  refine RC.block ?_
  refine RC.loop (γ := Nat) (fun k E w' => E = [(12, .int .i64 k), (10, .int .i64 (prNp n)), (11, .int .i64 (prQu n)), (7, .pointer (some ⟨b, 0, none⟩)), (5, .pointer (some ⟨b5, 0, none⟩))] ∧ k ≤ prNp n ∧
    Sat oo w' [pO (.pointer (some ⟨b, 0, none⟩)) (prNp n) 10 (prQu n) 80 L, pin F0, pt b5 (.cells x.cells.toArray 41 (0, 0)), R]) (fun k => prNp n - k) 0 _ (by rw [hnp, hqu.2]; (repeat (first | exact Sub.nil | refine Sub.cons rfl ?_))) ⟨rfl, by omega, hS.pick [1, 3, 4, 5] (by decide) rfl⟩ ?_
  clear hS
  rintro k E w ⟨rfl, hk, hS⟩
  refine RC.seq ?_
  refine RC.seq ?_
  refine RC.region rfl ?_
  refine RL.q (Qt.mv rfl) ?_
  refine RL.q (Qt.mv rfl) ?_
  refine RL.q (Qt.lss rfl rfl) ?_
  refine RL.nil ?_
  refine RE.sqN ?_
  refine RC.cond rfl (fun h => ?_) (fun h => ?_)
  · skip
    have h : k < prNp n := by simpa using h
    have hll := prList_len hok k
    have hle : ((prList L (prNp n) k).length : Int) ≤ prQu n := by
      rw [prList, if_neg (by omega), Int.toNat_natCast, getD_at (by omega), kIds, List.length_map]
      exact hro k (by omega) h
    refine RC.skip ?_
    refine RE.sqN ?_
    refine RC.seq ?_
    refine RC.block ?_
    refine RC.seq ?_
    refine RC.region rfl ?_
    refine RL.q (Qt.mv rfl) ?_
    refine RL.q (Qt.mv rfl) ?_
    refine RL.e (Ef.call hS (prListC _ _ _ _ _ L k) rfl rfl Try.call27 [0] [1, 2, 3] (by decide) rfl rfl) ?_
    rintro v45 w ⟨ps, rfl, hS⟩
    obtain ⟨so, co, rfl⟩ := hS.ownForm 0 rfl
    refine RL.q (Qt.lenS rfl) ?_
    refine RL.q (Qt.mv rfl) ?_
    refine RL.q (Qt.gtr rfl rfl) ?_
    refine RL.nil ?_
    refine RE.sqN ?_
    refine RC.condF rfl (decide_eq_false (by omega)) ?_
    refine RC.skip ?_
    refine RE.bkN ?_
    refine RE.sqN ?_
    refine RC.region rfl ?_
    refine RL.q (Qt.mv rfl) ?_
    refine RL.q ((by exact Qt.addI rfl rfl (by dsimp only [inK]; omega))) ?_
    refine RL.q (Qt.as rfl) ?_
    refine RL.nil ?_
    apply RE.lpN (k + 1)
    case hI => exact ⟨rfl, h, hS.pick [1, 2, 3, 4] (by decide) rfl⟩
    case hs => (repeat (first | exact Sub.nil | refine Sub.cons rfl ?_))
    case hm =>
      show prNp n - (k + 1) < prNp n - k
      omega
  · skip
    have hll := prList_len hok x.proc
    refine RC.exit ?_
    refine RE.sqX ?_
    refine RE.lpX ?_
    refine RE.bkX ?_
    refine RE.sqN ?_
    refine RC.seq ?_
    refine RC.region rfl ?_
    refine RL.q (Qt.mv rfl) ?_
    refine RL.q (Qt.fld rfl) ?_
    refine RL.q (Qt.ld rfl (by exact hS.at 2 rfl) (by first  | rfl)) ?_
    refine RL.e (Ef.call hS (prListC _ _ _ _ _ L x.proc) rfl rfl Try.call27 [0] [1, 2, 3] (by decide) rfl rfl) ?_
    rintro v52 w ⟨ps, rfl, hS⟩
    obtain ⟨so, co, rfl⟩ := hS.ownForm 0 rfl
    refine RL.q (Qt.lenS rfl) ?_
    refine RL.q (Qt.mv rfl) ?_
    refine RL.q (Qt.geq rfl rfl) ?_
    refine RL.q (Qt.as rfl) ?_
    refine RL.nil ?_
    refine RE.sqN ?_
    refine RC.seq ?_
    refine RC.seq ?_
    refine RC.region rfl ?_
    refine RL.q (Qt.mv rfl) ?_
    refine RL.q (Qt.fld rfl) ?_
    refine RL.q (Qt.ld rfl (by exact hS.at 3 rfl) (by first  | rfl)) ?_
    refine RL.q (Qt.fld rfl) ?_
    refine RL.q (Qt.ld rfl (by exact hS.at 3 rfl) (by first  | rfl)) ?_
    refine RL.q (Qt.fld rfl) ?_
    refine RL.q (Qt.ldA rfl (by exact hS.at 3 rfl) (by exact hkx) (by exact Nat.le_of_ble_eq_true rfl)) ?_
    refine RL.e (Ef.call hS (prPutC _ _ _ _ _ L x.proc x.id x.k hx.1 (by omega)) rfl rfl Try.call15 [1] [0, 2, 3, 4] (by decide) rfl rfl) ?_
    rintro v63 w ⟨ps, ⟨rfl, rfl⟩, hS⟩
    refine RL.q (Qt.neq rfl rfl) ?_
    refine RL.nil ?_
    refine RE.sqN ?_
    refine RC.cond rfl (fun h2 => ?_) (fun h2 => ?_)
    · refine RC.seq ?_
      refine RC.region rfl ?_
      refine RL.q (Qt.as rfl) ?_
      refine RL.nil ?_
      refine RE.sqN ?_
      refine RC.ret ?_
      refine RE.sqR ?_
      exact RE.retB rfl ⟨rfl, rfl⟩ (hS.pick [2, 4] (by decide) rfl)
    · skip
      have he : prPutErr L (prNp n) 10 x.proc x.id x.k = 0 := by simpa using h2
      obtain ⟨e1, e2⟩ := prPut_where hok (queue := prQu n) hx.1 he
      obtain ⟨g1, _, _, _⟩ := prPutErr_is0 (queue := prQu n) he
      have hll2 : (prList L (prNp n) x.proc).length = (L.getD x.proc.toNat []).length := by rw [prList, if_neg (by omega), kIds, List.length_map]
      refine RC.skip ?_
      refine RE.sqN ?_
      refine RC.seq ?_
      refine RC.region rfl ?_
      refine RL.q (Qt.mv rfl) ?_
      refine RL.q (Qt.fld rfl) ?_
      refine RL.q (Qt.ld rfl (by exact hS.at 3 rfl) (by first  | rfl)) ?_
      refine RL.e (Ef.call hS (prWhere _ _ _ _ _ (prPut L (prNp n) 10 (prQu n) x.proc x.id x.k) x.id) rfl rfl Try.call24 [0] [1, 2, 3, 4] (by decide) rfl rfl) ?_
      rintro v69 w ⟨ps, ⟨rfl, rfl⟩, hS⟩
      rw [e1, e2]
      by_cases hf : ((prList L (prNp n) x.proc).length : Int) ≥ prQu n
      · have hfd : decide (((prList L (prNp n) x.proc).length : Int) ≥ prQu n) = true := decide_eq_true hf
        have hto : prTo L (prNp n) (prQu n) x.proc = prNp n := by rw [prTo, if_pos (by omega)]
        rw [hto]
        have hq : decide (((prNp n : Nat) : Int) = (prNp n : Nat)) = true := decide_eq_true rfl
        refine RL.q (Qt.mv rfl) ?_
        refine RL.q (Qt.ext rfl rfl) ?_
        refine RL.q (Qt.ext rfl rfl) ?_
        refine RL.q (Qt.as rfl) ?_
        refine RL.q (Qt.as rfl) ?_
        refine RL.nil ?_
        refine RE.sqN ?_
        refine RC.seq ?_
        refine RC.region rfl ?_
        refine RL.q (Qt.mv rfl) ?_
        refine RL.q (Qt.mv rfl) ?_
        refine RL.q (Qt.mv rfl) ?_ (Runs.guard rfl rfl rfl (rfl))
        refine RL.q (Qt.mv rfl) ?_ (Runs.guard rfl rfl rfl (rfl))
        refine RL.q (Qt.mv rfl) ?_ (Runs.guard rfl rfl rfl (hfd))
        refine RL.q (Qt.mv rfl) ?_ (Runs.guard rfl rfl rfl (hfd))
        refine RL.q (Qt.eql rfl rfl) ?_ (Runs.guard rfl rfl rfl (hfd))
        refine RL.q ((by exact Qt.pickT rfl (by assumption) rfl)) ?_ (Runs.guard rfl rfl rfl (rfl))
        refine RL.q (Qt.mv rfl) ?_ (Runs.guard rfl rfl rfl (rfl))
        refine RL.s (Skips.guard rfl rfl rfl (hq)) ?_
        refine RL.s (Skips.guard rfl rfl rfl (hq)) ?_
        refine RL.s (Skips.guard rfl rfl rfl (hq)) ?_
        refine RL.s (Skips.undef rfl rfl rfl) ?_
        refine RL.s (Skips.undef rfl rfl rfl) ?_
        refine RL.s (Skips.undef rfl rfl rfl) ?_
        refine RL.s (Skips.undef rfl rfl rfl) ?_
        refine RL.s (Skips.guard rfl rfl rfl (hq)) ?_
        refine RL.q ((by exact Qt.pickT rfl (by assumption) rfl)) ?_ (Runs.guard rfl rfl rfl (rfl))
        refine RL.q ((by exact Qt.pickT rfl rfl rfl)) ?_
        refine RL.q (Qt.as rfl) ?_
        refine RL.nil ?_
        refine RE.sqN ?_
        refine RC.ret ?_
        exact RE.retB rfl ⟨by simp [oneOf], rfl⟩ (hS.pick [2, 4] (by decide) rfl)
      · have hfd : decide (((prList L (prNp n) x.proc).length : Int) ≥ prQu n) = false := decide_eq_false hf
        have hto : ((prTo L (prNp n) (prQu n) x.proc : Nat) : Int) = x.proc := by rw [prTo, if_neg (by omega)]; omega
        rw [hto]
        have hfn : (!decide (((prList L (prNp n) x.proc).length : Int) ≥ prQu n)) = true := by rw [hfd]; rfl
        have hq : decide (x.proc = x.proc) = true := decide_eq_true rfl
        refine RL.q (Qt.mv rfl) ?_
        refine RL.q (Qt.ext rfl rfl) ?_
        refine RL.q (Qt.ext rfl rfl) ?_
        refine RL.q (Qt.as rfl) ?_
        refine RL.q (Qt.as rfl) ?_
        refine RL.nil ?_
        refine RE.sqN ?_
        refine RC.seq ?_
        refine RC.region rfl ?_
        refine RL.q (Qt.mv rfl) ?_
        refine RL.q (Qt.mv rfl) ?_
        refine RL.q (Qt.mv rfl) ?_ (Runs.guard rfl rfl rfl (rfl))
        refine RL.q (Qt.mv rfl) ?_ (Runs.guard rfl rfl rfl (rfl))
        refine RL.s (Skips.guard rfl rfl rfl (hfd)) ?_
        refine RL.s (Skips.guard rfl rfl rfl (hfd)) ?_
        refine RL.s (Skips.guard rfl rfl rfl (hfd)) ?_
        refine RL.q ((by exact Qt.pickF rfl (by assumption) rfl)) ?_ (Runs.guard rfl rfl rfl (rfl))
        refine RL.q (Qt.mv rfl) ?_ (Runs.guard rfl rfl rfl (rfl))
        refine RL.q (Qt.mv rfl) ?_ (Runs.guard rfl rfl rfl (rfl))
        refine RL.q (Qt.not rfl) ?_ (Runs.guard rfl rfl rfl (rfl))
        refine RL.q (Qt.mv rfl) ?_ (Runs.guard rfl rfl rfl (rfl))
        refine RL.q (Qt.mv rfl) ?_ (Runs.guard rfl rfl rfl (hfn))
        refine RL.q (Qt.fld rfl) ?_ (Runs.guard rfl rfl rfl (hfn))
        refine RL.q (Qt.ld rfl (by exact hS.at 3 rfl) (by first  | rfl)) ?_ (Runs.guard rfl rfl rfl (hfn))
        refine RL.q (Qt.eql rfl rfl) ?_ (Runs.guard rfl rfl rfl (hfn))
        refine RL.q ((by exact Qt.pickT rfl (by assumption) rfl)) ?_ (Runs.guard rfl rfl rfl (rfl))
        refine RL.q ((by exact Qt.pickF rfl rfl rfl)) ?_ (Runs.guard rfl rfl rfl (rfl))
        refine RL.q ((by exact Qt.pickT rfl rfl rfl)) ?_
        refine RL.q (Qt.as rfl) ?_
        refine RL.nil ?_
        refine RE.sqN ?_
        refine RC.ret ?_
        exact RE.retB rfl ⟨by simp [oneOf], rfl⟩ (hS.pick [2, 4] (by decide) rfl)
end Go.Proofs

/- ProcsRoom, for every input: a place of a processor has never more than it may; what does not fit stands at the one that all share; the arguments read as before. No condition. -/
namespace Go.Proofs
open Go Go.Gx Go.ChangeShapes Go.WideShapes Go.ChangeAt Go.RowKit Go.Deep
namespace Ytieanejabjhnjaa
set_option maxRecDepth 100000 in
theorem procsRoom_lifted (os : Os) (started : os.Started) (H : Type) (enc : TypeId × Value → H) :
    ReturnsInHanded {} Try.checked os 8 .any (Rows.procsRoomSpec.pre6 enc Try.prog Try.f8 Rows.procsRoomRow.domain false) (Rows.procsRoomSpec.post enc Try.prog Try.f8 false true false false) := by
  refine returnsInHanded_of_change (C := Try.checked) own_knob started (by kernel_rfl) Try.func8
    (ChangeSpec.witness6 (enc := enc) (C := Try.checked) false ⟨#[], #[.int .u8 0, .slice none 0 0, .agg #[.int .i64 0, .int .i64 0, .int .i64 0, .bool false, .int .u64 0, .int .u8 0, .int .u64 0]], []⟩ 8 (by kernel_rfl) (by kernel_rfl) (by kernel_rfl) (by kernel_rfl)) ?_
  intro W base args ds gs before hval0 hW hcnd _
  have hval : ∀ (j : Nat) t v, Try.f8.params[j]? = some t → args[j]? = some v → Value.okWide Try.prog W .any base t v := hval0
  have hW' := hW
  obtain ⟨p, q, hA0, hV, rfl, hfz, hnd⟩ := hW
  have hA : DataW.TrodAll enc Try.prog W 0 (fun _ => true) true Try.f8.params.toList args.toList ds p := hA0
  rw [Try.params8] at hA hval
  obtain ⟨v0, v1, v2, d0, d1, d2, p0, p1, p2, rfl, rfl, rfl, h0, h1, h2⟩ := trodAll_three hA
  obtain ⟨rfl, rfl⟩ := trodVars_none hV
  obtain ⟨n, rfl, _, _, wn⟩ := open_int (TI.u (P := Try.prog) (t := 5)) (hval 0 _ v0 rfl rfl) h0
  obtain ⟨dl, hdl, okdl⟩ := prDeeds_open (hval 1 _ v1 rfl rfl) h1
  obtain ⟨x, rfl, okx⟩ := prDeed_open (hval 2 _ v2 rfl rfl) h2
  refine (prLawRoom n (bounds_u8 wn) v1 dl x (allOf W) hdl okdl okx).law.mono fun e W' ⟨he, hb⟩ => ?_
  subst he
  exact ⟨_, rfl, law_post laid_out (by rw [Try.params8]; decide +kernel) hW' rfl hb rfl (TI.u (P := Try.prog) (t := 4)) rfl rfl rfl⟩

theorem procsRoom_holds : Rows.ProcsRoomSaid :=
  OpenClaim.holds_of_wide 8 Try.f8 rfl rfl rfl rfl rfl rfl rfl ⟨rfl, rfl, rfl, rfl, rfl⟩ rfl rfl rfl rfl rfl (by kernel_rfl) Try.func8 (by show joinedFacts Try.prog 8 Try.f8 Rows.procsRoomSpec Rows.procsRoomRow = true; unfold joinedFacts; rw [may_enter, lifts_final, make_is]; kernel_rfl)
    (of_decide_eq_true (by kernel_rfl)) (by unfold Func.isWrapper; (rw [if_neg (by decide +kernel)]; exact ⟨rfl, rfl⟩))
    (fun os started H enc _ => procsRoom_lifted os started H enc)
end Ytieanejabjhnjaa
end Go.Proofs

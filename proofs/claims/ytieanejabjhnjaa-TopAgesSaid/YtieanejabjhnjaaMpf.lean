/- Part 6 of the proof engine and of what the functions come to. No condition. -/
import Derived.Test.YtieanejabjhnjaaMpe
import Derived.OpenShut
/- The deeds of layer 11 among the arguments of a law. No condition. -/
namespace Go.Proofs
open Go Go.Gx Go.ChangeShapes Go.WideShapes Go.ChangeAt Go.RowKit Go.Deep

abbrev ODeedsAt (v : Value) (ds : List ODeed) (F0 : Frag) : Prop := RowsAt ODeed.cells 7 v ds F0
theorem prDeed_cells : Try.prog.cellsOf 41 = 7 := by kernel_rfl
theorem prKey_cells : Try.prog.cellsOf 31 = 3 := by kernel_rfl
theorem prDeed_c0 : Try.prog.cellsOf 3 = 1 := by kernel_rfl
theorem prDeed_c1 : Try.prog.cellsOf 4 = 1 := by kernel_rfl
theorem prDeed_c2 : Try.prog.cellsOf 29 = 1 := by kernel_rfl
theorem prDeed_c3 : Try.prog.cellsOf 5 = 1 := by kernel_rfl
set_option maxRecDepth 100000 in
theorem prKey_of {H : Type} {enc : TypeId × Value → H} {W : World} {fuel : Nat} {cs : List Value} {x : DataW H × List MemPlace} (h : DataW.trod enc Try.prog W 0 (fun _ => true) true fuel 31 cs = some x) : ∃ k : KKey, cs = k.cells ∧ k.ok := by
  have ht := TI.u (P := Try.prog) (t := 31)
  obtain ⟨y0, y1, y2, n, _, hl, h0, h1, h2⟩ := Go.Deep.trod_struct3 ht h
  rw [prKey_cells] at hl
  match cs, hl with
  | [c0, c1, c2], _ =>
    simp only [prDeed_c1, prDeed_c2, prDeed_c3, List.drop_zero, List.drop_succ_cons, List.take_succ_cons, List.take_zero] at h0 h1 h2
    obtain ⟨a, e0, _⟩ := DataW.trod_bool (TI.u (P := Try.prog) (t := 4)) h0
    obtain ⟨b, e1, _, w1⟩ := DataW.trod_int (TI.u (P := Try.prog) (t := 29)) h1
    obtain ⟨c, e2, _, w2⟩ := DataW.trod_int (TI.u (P := Try.prog) (t := 5)) h2
    simp only [List.cons.injEq, and_true] at e0 e1 e2
    subst e0; subst e1; subst e2
    have r1 := bounds_u64 w1
    have r2 := bounds_u8 w2
    exact ⟨⟨a, b, c⟩, rfl, by show (0 ≤ b ∧ b ≤ 18446744073709551615) ∧ 0 ≤ c ∧ c ≤ 255; omega⟩
theorem trod_struct5 {H : Type} {enc : TypeId × Value → H} {P : Program} {w : World} {base : Nat} {spare : Nat → Bool} {held : Bool} {t : TypeId} {f0 f1 f2 f3 f4 : Field} {fuel : Nat} {cs : List Value} {x : DataW H × List MemPlace} (ht : P.underlying t = some (.struct #[f0, f1, f2, f3, f4])) (h : DataW.trod enc P w base spare held fuel t cs = some x) :
    ∃ y0 y1 y2 y3 y4 n, cs.length = P.cellsOf t ∧ DataW.trod enc P w base spare held n f0.type ((cs.drop f0.offset).take (P.cellsOf f0.type)) = some y0 ∧
      DataW.trod enc P w base spare held n f1.type ((cs.drop f1.offset).take (P.cellsOf f1.type)) = some y1 ∧ DataW.trod enc P w base spare held n f2.type ((cs.drop f2.offset).take (P.cellsOf f2.type)) = some y2 ∧
      DataW.trod enc P w base spare held n f3.type ((cs.drop f3.offset).take (P.cellsOf f3.type)) = some y3 ∧ DataW.trod enc P w base spare held n f4.type ((cs.drop f4.offset).take (P.cellsOf f4.type)) = some y4 := by
  obtain ⟨xs, n, _, _, hl, hlen, hf⟩ := DataW.trod_struct ht h
  match xs, hlen with
  | [y0, y1, y2, y3, y4], _ => exact ⟨y0, y1, y2, y3, y4, n, hl, by simpa using hf 0 f0 rfl, by simpa using hf 1 f1 rfl, by simpa using hf 2 f2 rfl, by simpa using hf 3 f3 rfl, by simpa using hf 4 f4 rfl⟩
set_option maxRecDepth 100000 in
theorem prDeed_of {H : Type} {enc : TypeId × Value → H} {W : World} {fuel : Nat} {cs : List Value} {x : DataW H × List MemPlace} (h : DataW.trod enc Try.prog W 0 (fun _ => true) true fuel 41 cs = some x) : ∃ d : ODeed, cs = d.cells ∧ d.ok := by
  have ht := TI.u (P := Try.prog) (t := 41)
  obtain ⟨y0, y1, y2, y3, y4, n, hl, h0, h1, h2, h3, h4⟩ := trod_struct5 ht h
  rw [prDeed_cells] at hl
  match cs, hl with
  | [c0, c1, c2, c3, c4, c5, c6], _ =>
    simp only [prDeed_c0, prDeed_c2, prKey_cells, List.drop_zero, List.drop_succ_cons, List.take_succ_cons, List.take_zero] at h0 h1 h2 h3 h4
    obtain ⟨a, e0, _, w0⟩ := DataW.trod_int (TI.u (P := Try.prog) (t := 3)) h0
    obtain ⟨b, e1, _, w1⟩ := DataW.trod_int (TI.u (P := Try.prog) (t := 3)) h1
    obtain ⟨c, e2, _, w2⟩ := DataW.trod_int (TI.u (P := Try.prog) (t := 3)) h2
    obtain ⟨k, e3, hk⟩ := prKey_of h3
    obtain ⟨d, e4, _, w4⟩ := DataW.trod_int (TI.u (P := Try.prog) (t := 29)) h4
    simp only [List.cons.injEq, and_true] at e0 e1 e2 e4
    obtain ⟨ke, kd, kv⟩ := k
    simp only [KKey.cells, List.cons.injEq, and_true] at e3
    obtain ⟨g0, g1, g2⟩ := e3
    subst e0; subst e1; subst e2; subst e4; subst g0; subst g1; subst g2
    exact ⟨⟨a, b, c, ⟨ke, kd, kv⟩, d⟩, rfl, hk, bounds_u64 w4⟩
set_option maxRecDepth 100000 in
theorem prDeeds_open {H : Type} {enc : TypeId × Value → H} {W : World} {r : Reach} {b0 : Nat} {v : Value} {d : DataW H} {ps : List MemPlace} (hval : Value.okWide Try.prog W r b0 39 v) (hd : DataW.Trod enc Try.prog W 0 (fun _ => true) true 39 v d ps) :
    ∃ ds : List ODeed, ODeedsAt v ds (allOf W) ∧ ∀ x ∈ ds, x.ok := slice_open (te := 41) prDeed_cells (by decide) (fun _ => rfl) prDeed_of hval hd
set_option maxRecDepth 100000 in
theorem prDeed_open {H : Type} {enc : TypeId × Value → H} {W : World} {r : Reach} {b0 : Nat} {v : Value} {d : DataW H} {ps : List MemPlace} (hval : Value.okWide Try.prog W r b0 41 v) (hd : DataW.Trod enc Try.prog W 0 (fun _ => true) true 41 v d ps) :
    ∃ x : ODeed, v = x.val ∧ x.ok := by
  have ht := TI.u (P := Try.prog) (t := 41)
  obtain ⟨cs, rfl, hsz⟩ := okWide_struct ht hval
  obtain ⟨fuel, hf⟩ := hd
  obtain ⟨x, hx, hok⟩ := prDeed_of hf
  refine ⟨x, ?_, hok⟩
  have : cs.toList = x.cells := hx
  rw [ODeed.val, ← this]
theorem okWide_array {P : Program} {w : World} {r : Reach} {base : Nat} {t n e : Nat} {v : Value} (ht : P.underlying t = some (.array n e)) (h : Value.okWide P w r base t v) : ∃ cs, v = .agg cs ∧ cs.size = P.cellsOf t := by
  simp only [Value.okWide, ht] at h
  obtain ⟨cs, h1, h2, _⟩ := h
  exact ⟨cs, h1, h2⟩
theorem prDeed2_cells : Try.prog.cellsOf 42 = 14 := by kernel_rfl
theorem prInt3_cells : Try.prog.cellsOf 64 = 3 := by kernel_rfl
set_option maxRecDepth 100000 in
theorem prDeed2_open {H : Type} {enc : TypeId × Value → H} {W : World} {r : Reach} {b0 : Nat} {v : Value} {d : DataW H} {ps : List MemPlace} (hval : Value.okWide Try.prog W r b0 42 v) (hd : DataW.Trod enc Try.prog W 0 (fun _ => true) true 42 v d ps) :
    ∃ x y : ODeed, v = .agg (x.cells ++ y.cells).toArray ∧ x.ok ∧ y.ok := by
  have ht := TI.u (P := Try.prog) (t := 42)
  obtain ⟨cs, rfl, hsz⟩ := okWide_array ht hval
  obtain ⟨fuel, hf⟩ := hd
  obtain ⟨xs, m, _, _, hl, hn, hel⟩ := DataW.trod_array ht hf
  match xs, hn with
  | [y0, y1], _ =>
    have h0 := hel 0 (by decide)
    have h1 := hel 1 (by decide)
    rw [prDeed_cells] at h0 h1
    obtain ⟨x, ex, hx⟩ := prDeed_of h0
    obtain ⟨y, ey, hy⟩ := prDeed_of h1
    refine ⟨x, y, ?_, hx, hy⟩
    rw [← ex, ← ey]
    rw [prDeed2_cells] at hsz
    obtain ⟨l⟩ := cs
    have hl : l.length = 14 := hsz
    simp only [Value.cells, Nat.zero_mul, List.drop_zero, Nat.one_mul]
    congr 1
    have e : (l.drop 7).take 7 = l.drop 7 := List.take_of_length_le (by rw [List.length_drop]; omega)
    rw [e, List.take_append_drop]
set_option maxRecDepth 100000 in
theorem prInt3_open {H : Type} {enc : TypeId × Value → H} {W : World} {r : Reach} {b0 : Nat} {v : Value} {d : DataW H} {ps : List MemPlace} (hval : Value.okWide Try.prog W r b0 64 v) (hd : DataW.Trod enc Try.prog W 0 (fun _ => true) true 64 v d ps) :
    ∃ a b c : Int, v = .agg #[.int .i64 a, .int .i64 b, .int .i64 c] := by
  have ht := TI.u (P := Try.prog) (t := 64)
  obtain ⟨cs, rfl, hsz⟩ := okWide_array ht hval
  obtain ⟨fuel, hf⟩ := hd
  obtain ⟨xs, m, _, _, hl, hn, hel⟩ := DataW.trod_array ht hf
  rw [prInt3_cells] at hsz
  match xs, hn with
  | [y0, y1, y2], _ =>
    have h0 := hel 0 (by decide)
    have h1 := hel 1 (by decide)
    have h2 := hel 2 (by decide)
    obtain ⟨l⟩ := cs
    match l, hsz with
    | [c0, c1, c2], _ =>
      simp only [Value.cells, prDeed_c0, Nat.mul_one, List.drop_zero, List.drop_succ_cons, List.take_succ_cons, List.take_zero] at h0 h1 h2
      obtain ⟨a, e0, _, w0⟩ := DataW.trod_int (TI.u (P := Try.prog) (t := 3)) h0
      obtain ⟨b, e1, _, w1⟩ := DataW.trod_int (TI.u (P := Try.prog) (t := 3)) h1
      obtain ⟨c, e2, _, w2⟩ := DataW.trod_int (TI.u (P := Try.prog) (t := 3)) h2
      simp only [List.cons.injEq, and_true] at e0 e1 e2
      subst e0; subst e1; subst e2
      exact ⟨a, b, c, rfl⟩
end Go.Proofs

/- The comparison of two lists of ids. -/
namespace Go.Proofs
open Go Go.Gx
variable {oo : World}

set_option maxHeartbeats 1000000 in
theorem rSame (a b : Value) (x y : List Int) (hlx : x.length ≤ 1000000) : Ct Try.prog 53 #[a, b] [ownI a x, ownI b y] (fun v ps => v = .bool (decide (x = y)) ∧ ps = []) := by
  refine Ct.enter Try.func53 rfl (Nat.le_of_ble_eq_true rfl) ?_
  intro oo w R hS
  change RC _ _ _ _ _ _ [(0, _), (1, _)] _
  obtain ⟨sa, ca, rfl⟩ := hS.ownForm 0 rfl
  obtain ⟨sb, cb, rfl⟩ := hS.ownForm 1 rfl
  refine RC.seq ?_
  refine RC.region rfl ?_
  refine RL.q (Qt.as rfl) ?_
  refine RL.nil ?_
  refine RE.sqN ?_
  refine RC.seq ?_
  refine RC.seq ?_
  refine RC.region rfl ?_
  refine RL.q (Qt.mv rfl) ?_
  refine RL.q (Qt.lenS rfl) ?_
  refine RL.q (Qt.mv rfl) ?_
  refine RL.q (Qt.lenS rfl) ?_
  refine RL.q (Qt.neq rfl rfl) ?_
  refine RL.nil ?_
  refine RE.sqN ?_
  refine RC.cond rfl (fun h => ?_) (fun h => ?_)
  · refine RC.seq ?_
    refine RC.region rfl ?_
    refine RL.q (Qt.as rfl) ?_
    refine RL.nil ?_
    refine RE.sqN ?_
    refine RC.ret ?_
    refine RE.sqR ?_
    have h : ¬ x.length = y.length := by
      have := of_decide_eq_true h
      omega
    refine RE.retB rfl (ps := []) ⟨?_, rfl⟩ (hS.pick [2] (by decide) rfl)
    simp only [oneOf, Value.bool.injEq, Bool.false_eq, decide_eq_false_iff_not]
    intro e
    exact h (by rw [e])
  · refine RC.skip ?_
    refine RE.sqN ?_
    refine RC.seq ?_
    refine RC.seq ?_
    refine RC.region rfl ?_
    refine RL.q (Qt.as rfl) ?_
    refine RL.nil ?_
    refine RE.sqN ?_
    refine RC.block ?_
    have h : x.length = y.length := by
      have := of_decide_eq_false h
      omega
    refine RC.loop (γ := Nat) (fun k E w' => E = [(5, .int .i64 k), (0, .slice sa x.length ca), (1, .slice sb y.length cb)] ∧ k ≤ x.length ∧ x.take k = y.take k ∧ Sat oo w' [ownI (.slice sa x.length ca) x, ownI (.slice sb y.length cb) y, R]) (fun k => x.length - k) 0 _ (by (repeat (first | exact Sub.nil | refine Sub.cons rfl ?_))) ⟨rfl, by omega, by simp, hS⟩ ?_
    clear hS
    rintro k E w ⟨rfl, hk, ht, hS⟩
    refine RC.seq ?_
    refine RC.seq ?_
    refine RC.region rfl ?_
    refine RL.q (Qt.mv rfl) ?_
    refine RL.q (Qt.mv rfl) ?_
    refine RL.q (Qt.lenS rfl) ?_
    refine RL.q (Qt.lss rfl rfl) ?_
    refine RL.nil ?_
    refine RE.sqN ?_
    refine RC.cond rfl (fun h2 => ?_) (fun h2 => ?_)
    · skip
      have hlt : k < x.length := by simpa using h2
      have hlt2 : k < y.length := by omega
      have hS0 := hS
      obtain ⟨b1, c1, d1, hv, hc1, hc2, hc3, hc4, hS⟩ := hS.ownPos 0 rfl (by omega)
      cases hv
      obtain ⟨b2, c2, d2, hv, hd1, hd2, hd3, hd4, hS⟩ := hS.ownPos 1 rfl (by omega)
      cases hv
      refine RC.skip ?_
      refine RE.sqN ?_
      refine RC.seq ?_
      refine RC.block ?_
      refine RC.seq ?_
      refine RC.drawn 9 [0, 1, 2, 3, 4, 5, 6, 7, 8] (Same _) (by kernel_rfl) (by kernel_rfl) Same.drew (fun hh => ?_)
      replace hS := hS.drew
      refine RH.q hh (Calm.sq (Calm.bk (Calm.sq (Calm.lp (Calm.bk (Calm.sq Calm.body)))))) rfl (by kernel_rfl) (Qt.mv rfl) ?_
      refine RH.q hh (Calm.sq (Calm.bk (Calm.sq (Calm.lp (Calm.bk (Calm.sq Calm.body)))))) rfl (by kernel_rfl) (Qt.mv rfl) ?_
      refine RH.q hh (Calm.sq (Calm.bk (Calm.sq (Calm.lp (Calm.bk (Calm.sq Calm.body)))))) rfl (by kernel_rfl) (Qt.ixS rfl rfl (by omega) (by omega)) ?_
      refine RH.q hh (Calm.sq (Calm.bk (Calm.sq (Calm.lp (Calm.bk (Calm.sq Calm.body)))))) rfl (by kernel_rfl) (Qt.ld rfl (by exact hS.at 0 rfl) (by exact int_cell hc4 rfl hlt)) ?_
      refine RH.q hh (Calm.sq (Calm.bk (Calm.sq (Calm.lp (Calm.bk (Calm.sq Calm.body)))))) rfl (by kernel_rfl) (Qt.mv rfl) ?_
      refine RH.q hh (Calm.sq (Calm.bk (Calm.sq (Calm.lp (Calm.bk (Calm.sq Calm.body)))))) rfl (by kernel_rfl) (Qt.mv rfl) ?_
      refine RH.q hh (Calm.sq (Calm.bk (Calm.sq (Calm.lp (Calm.bk (Calm.sq Calm.body)))))) rfl (by kernel_rfl) (Qt.ixS rfl rfl (by omega) (by omega)) ?_
      refine RH.q hh (Calm.sq (Calm.bk (Calm.sq (Calm.lp (Calm.bk (Calm.sq Calm.body)))))) rfl (by kernel_rfl) (Qt.ld rfl (by exact hS.at 1 rfl) (by exact int_cell hd4 rfl hlt2)) ?_
      refine RH.q hh (Calm.sq (Calm.bk (Calm.sq (Calm.lp (Calm.bk (Calm.sq Calm.body)))))) rfl (by kernel_rfl) (Qt.neq rfl rfl) ?_
      refine RH.done hh (by kernel_rfl) ?_
      refine RL.nil ?_
      refine RE.sqN ?_
      refine RC.cond rfl (fun h3 => ?_) (fun h3 => ?_)
      · refine RC.seq ?_
        refine RC.region rfl ?_
        refine RL.q (Qt.as rfl) ?_
        refine RL.nil ?_
        refine RE.sqN ?_
        refine RC.ret ?_
        refine RE.bkR ?_
        refine RE.sqR ?_
        refine RE.lpR ?_
        refine RE.bkR ?_
        refine RE.sqR ?_
        have h3 := of_decide_eq_true h3
        refine RE.retB rfl (ps := []) ⟨?_, rfl⟩ (hS.pick [2] (by decide) rfl)
        simp only [oneOf, Value.bool.injEq, Bool.false_eq, decide_eq_false_iff_not]
        intro e
        subst e
        exact h3 rfl
      · refine RC.skip ?_
        refine RE.bkN ?_
        refine RE.sqN ?_
        refine RC.region rfl ?_
        refine RL.q (Qt.mv rfl) ?_
        refine RL.q ((by exact Qt.addI rfl rfl (by dsimp only [inK]; omega))) ?_
        refine RL.q (Qt.as rfl) ?_
        refine RL.nil ?_
        have h3 := of_decide_eq_false h3
        have h4 : x[k] = y[k] := Classical.not_not.1 h3
        apply RE.lpN (k + 1)
        case hI => exact ⟨rfl, hlt, by rw [List.take_succ_eq_append_getElem hlt, List.take_succ_eq_append_getElem hlt2, ht, h4], hS0.drew⟩
        case hs => (repeat (first | exact Sub.nil | refine Sub.cons rfl ?_))
        case hm =>
          show x.length - (k + 1) < x.length - k
          omega
    · refine RC.exit ?_
      refine RE.sqX ?_
      refine RE.lpX ?_
      refine RE.bkX ?_
      refine RE.sqN ?_
      refine RC.seq ?_
      refine RC.region rfl ?_
      refine RL.q (Qt.as rfl) ?_
      refine RL.nil ?_
      refine RE.sqN ?_
      refine RC.ret ?_
      have hge : k = x.length := by
        have : ¬ k < x.length := by simpa using h2
        omega
      subst hge
      rw [List.take_length, h, List.take_length] at ht
      refine RE.retB rfl (ps := []) ⟨?_, rfl⟩ (hS.pick [2] (by decide) rfl)
      simp [oneOf, ht]
end Go.Proofs

/- The laws of layer 11: what live, do, play and same come to. -/
namespace Go.Proofs
open Go Go.Gx
variable {oo : World}

def prL1 : List (List KItem) := prPut (List.replicate 3 []) 2 4 2 0 1 (kFixed 4)
def prL2 : List (List KItem) := prPut prL1 2 4 2 1 2 (kFixed 6)

set_option maxHeartbeats 2000000 in
theorem prLive : Ct Try.prog 23 #[] [] (fun v ps => v = .bool true ∧ ∃ p L, ps = [pO p 2 4 2 2 L]) := by
  refine Ct.enter Try.func23 rfl (Nat.le_of_ble_eq_true rfl) ?_
  intro oo w R hS
  change RC _ _ _ _ _ _ [] _
  refine RC.seq ?_
  refine RC.region rfl ?_
  refine RL.q (Qt.as rfl) ?_
  refine RL.nil ?_
  refine RE.sqN ?_
  refine RC.seq ?_
  refine RC.region rfl ?_
  refine RL.e (Ef.call hS (prNew 2 4 2 (by decide) (by decide) (by decide) (by decide) (by decide) (by decide)) rfl rfl Try.call14 [] [0] (by decide) rfl rfl) ?_
  rintro v8 w ⟨ps, ⟨⟨bq, rfl⟩, rfl⟩, hS⟩
  refine RL.q (Qt.as rfl) ?_
  refine RL.nil ?_
  refine RE.sqN ?_
  refine RC.seq ?_
  refine RC.region rfl ?_
  refine RL.q (Qt.mv rfl) ?_
  refine RL.q (Qt.bldV [.const (Go.Value.bool false), .const (Go.Value.int Go.IntKind.u64 0), .const (Go.Value.int Go.IntKind.u8 4)] rfl rfl (by kernel_rfl)) ?_
  refine RL.e (Ef.call hS (prPutC _ 2 4 2 0 (List.replicate 3 []) 0 1 (kFixed 4) ⟨by decide, by decide⟩ (by decide)) rfl rfl Try.call15 [0] [1] (by decide) rfl rfl) ?_
  rintro v11 w ⟨ps, ⟨rfl, rfl⟩, hS⟩
  refine RL.q (Qt.mv rfl) ?_
  refine RL.q (Qt.bldV [.const (Go.Value.bool false), .const (Go.Value.int Go.IntKind.u64 0), .const (Go.Value.int Go.IntKind.u8 6)] rfl rfl (by kernel_rfl)) ?_
  refine RL.e (Ef.call hS (prPutC _ 2 4 2 1 prL1 1 2 (kFixed 6) ⟨by decide, by decide⟩ (by decide)) rfl rfl Try.call15 [0] [1] (by decide) rfl rfl) ?_
  rintro v14 w ⟨ps, ⟨rfl, rfl⟩, hS⟩
  refine RL.q (Qt.as rfl) ?_
  refine RL.q (Qt.as rfl) ?_
  refine RL.nil ?_
  refine RE.sqN ?_
  refine RC.seq ?_
  refine RC.region rfl ?_
  refine RL.q (Qt.mv rfl) ?_
  refine RL.e (Ef.call hS (prBest _ 2 4 2 2 prL2 0 0 (by decide)) rfl rfl Try.call18 [0] [1] (by decide) rfl rfl) ?_
  rintro v17 w ⟨ps, ⟨rfl, rfl⟩, hS⟩
  refine RL.q (Qt.mv rfl) ?_
  refine RL.q (Qt.ext rfl rfl) ?_
  refine RL.q (Qt.ext rfl rfl) ?_
  refine RL.q (Qt.ext rfl rfl) ?_
  refine RL.q (Qt.ext rfl rfl) ?_
  refine RL.e (Ef.alloc hS) ?_
  rintro _ w ⟨b5, rfl, hS⟩
  try simp (disch := omega) only [cells_agg'] at hS
  refine RL.q (Qt.as rfl) ?_
  refine RL.e0 (Ef.st hS 0 rfl rfl rfl (by rfl) (by rfl) (by exact Nat.le_of_ble_eq_true rfl)) ?_
  intro _ w hS
  simp (disch := omega) only [List.set_cons_zero, cells_agg'] at hS
  refine RL.q (Qt.as rfl) ?_
  refine RL.q (Qt.as rfl) ?_
  refine RL.nil ?_
  refine RE.sqN ?_
  refine RC.seq ?_
  refine RC.region rfl ?_
  refine RL.q (Qt.mv rfl) ?_
  refine RL.q (Qt.eql rfl rfl) ?_
  refine RL.q (Qt.mv rfl) ?_
  refine RLG.start 24 true rfl ?_
  refine RLG.q rfl rfl rfl (fun _ => Qt.mv rfl) ?_
  refine RLG.q rfl rfl rfl (fun hg => by (try simp only [decide_eq_true_eq] at hg); exact Qt.eql rfl rfl) ?_
  refine RLG.and rfl rfl ?_
  refine RL.q (Qt.mv rfl) ?_
  refine RLG.start 28 true rfl ?_
  refine RLG.q rfl rfl rfl (fun _ => Qt.mv rfl) ?_
  refine RLG.and rfl rfl ?_
  refine RL.q (Qt.mv rfl) ?_
  refine RLG.start 31 true rfl ?_
  refine RLG.q rfl rfl rfl (fun _ => Qt.mv rfl) ?_
  refine RLG.q rfl rfl rfl (fun hg => by (try simp only [decide_eq_true_eq, Bool.and_eq_true] at hg); exact Qt.eql rfl rfl) ?_
  refine RLG.and rfl rfl ?_
  refine RL.q (Qt.mv rfl) ?_
  refine RLG.start 35 true rfl ?_
  refine RLG.q rfl rfl rfl (fun _ => Qt.fld rfl) ?_
  refine RLG.q rfl rfl rfl (fun hg => by (try simp only [decide_eq_true_eq, Bool.and_eq_true] at hg); exact Qt.ld rfl (by exact hS.at 0 rfl) (by first  | rfl)) ?_
  refine RLG.q rfl rfl rfl (fun hg => by (try simp only [decide_eq_true_eq, Bool.and_eq_true] at hg); exact Qt.eql rfl rfl) ?_
  refine RLG.and rfl rfl ?_
  refine RL.q (Qt.mv rfl) ?_
  refine RLG.start 40 true rfl ?_
  refine RLG.q rfl rfl rfl (fun _ => Qt.mv rfl) ?_
  refine RLG.q rfl rfl rfl (fun hg => by (try simp only [decide_eq_true_eq, Bool.and_eq_true] at hg); exact Qt.eql rfl rfl) ?_
  refine RLG.and rfl rfl ?_
  refine RL.q (Qt.as rfl) ?_
  refine RL.nil ?_
  refine RE.sqN ?_
  refine RC.ret ?_
  have e1 : prPutErr (List.replicate 3 []) 2 4 0 1 (kFixed 4) = 0 := by decide
  have e2 : prPutErr prL1 2 4 1 2 (kFixed 6) = 0 := by decide
  have e3 : prB prL2 2 0 0 = 1 := by decide
  rw [e1, e2, e3]
  exact RE.retB rfl ⟨rfl, _, _, rfl⟩ (hS.pick [1, 2] (by decide) rfl)

set_option maxHeartbeats 4000000 in
theorem prDoC (p r : Value) (np nt : Nat) (queue B : Int) (L : List (List KItem)) (x : ODeed) (hx : x.ok) (hB : B + 1 ≤ 18446744073709551615) : Ct Try.prog 35 #[p, r, x.val] [pO p np nt queue B L, rpO r np nt queue L] (fun v ps => v = .bool true ∧ ps = [pO p np nt queue (B + 1) (prDo L np nt queue x), rpO r np nt queue (prDo L np nt queue x)]) := by
  refine Ct.enter Try.func35 rfl (Nat.le_of_ble_eq_true rfl) ?_
  intro oo w R hS
  change RC _ _ _ _ _ _ [(0, _), (1, _), (2, _)] _
  obtain ⟨hk, hdr⟩ := hx
  have hkx : x.cells.toArray.extract (0 + 3) (0 + 3 + 3) = x.k.cells.toArray := rfl
  have hkw : ∀ k : KKey, (wr #[.bool false, .int .u64 0, .int .u8 0] 0 k.cells).extract 0 (0 + 3) = k.cells.toArray := fun k => rfl
  refine RC.seq ?_
  refine RC.region rfl ?_
  refine RL.e (Ef.box hS rfl) ?_
  rintro _ w ⟨b5, rfl, hS⟩
  try simp (disch := omega) only [List.set_cons_zero, List.set_cons_succ, cells_int, cells_bool, cells_ptr, cells_slice, cells_func, cells_agg, cells_map, cells_int', cells_bool', cells_ptr', cells_slice', cells_agg', cells_map', cells_func', Nat.zero_add, wr, List.setIfInBounds_toArray] at hS
  refine RL.q (Qt.as rfl) ?_
  refine RL.nil ?_
  refine RE.sqN ?_
  refine RC.seq ?_
  refine RC.seq ?_
  refine RC.region rfl ?_
  refine RL.q (Qt.fld rfl) ?_
  refine RL.q (Qt.ld rfl (by exact hS.at 0 rfl) (by first  | rfl)) ?_
  refine RL.nil ?_
  refine RE.sqN ?_
  refine RC.block ?_
  refine RC.seq ?_
  refine RC.region rfl ?_
  refine RL.q (Qt.eql rfl rfl) ?_
  refine RL.q (Qt.as rfl) ?_
  refine RL.nil ?_
  refine RE.sqN ?_
  refine RC.cond rfl (fun h => ?_) (fun h => ?_)
  · skip
    have h : x.kind = 0 := of_decide_eq_true h
    have e : prDo L np nt queue x = prPut L np nt queue x.proc x.id x.k := by rw [prDo, if_pos h]
    rw [e]
    refine RC.seq ?_
    refine RC.drawn 18 [0, 1, 2, 3, 4, 5, 6, 8, 9, 10, 11, 12, 13, 14, 7, 15, 16, 17] (fun w' => w'.heap[b5]? = some (.cells x.cells.toArray 41 (0, 0))) (by kernel_rfl) (by kernel_rfl) ((by exact hS.drew.get 0 rfl)) (fun hh => ?_)
    replace hS := hS.drew
    refine RH.q hh (Calm.sq (Calm.bk (Calm.sq Calm.body))) rfl (by kernel_rfl) (Qt.mv rfl) ?_
    refine RH.q hh (Calm.sq (Calm.bk (Calm.sq Calm.body))) rfl (by kernel_rfl) (Qt.fld rfl) ?_
    refine RH.q hh (Calm.sq (Calm.bk (Calm.sq Calm.body))) rfl (by kernel_rfl) (Qt.ld rfl (fun _ h => h) (by first  | rfl)) ?_
    refine RH.q hh (Calm.sq (Calm.bk (Calm.sq Calm.body))) rfl (by kernel_rfl) (Qt.fld rfl) ?_
    refine RH.q hh (Calm.sq (Calm.bk (Calm.sq Calm.body))) rfl (by kernel_rfl) (Qt.ld rfl (fun _ h => h) (by first  | rfl)) ?_
    refine RH.q hh (Calm.sq (Calm.bk (Calm.sq Calm.body))) rfl (by kernel_rfl) (Qt.fld rfl) ?_
    refine RH.q hh (Calm.sq (Calm.bk (Calm.sq Calm.body))) rfl (by kernel_rfl) (Qt.ldA rfl (fun _ h => h) (by exact hkx) (by exact Nat.le_of_ble_eq_true rfl)) ?_
    refine RH.q hh (Calm.sq (Calm.bk (Calm.sq Calm.body))) rfl (by kernel_rfl) (Qt.mv rfl) ?_
    refine RH.q hh (Calm.sq (Calm.bk (Calm.sq Calm.body))) rfl (by kernel_rfl) (Qt.fld rfl) ?_
    refine RH.q hh (Calm.sq (Calm.bk (Calm.sq Calm.body))) rfl (by kernel_rfl) (Qt.ld rfl (fun _ h => h) (by first  | rfl)) ?_
    refine RH.q hh (Calm.sq (Calm.bk (Calm.sq Calm.body))) rfl (by kernel_rfl) (Qt.fld rfl) ?_
    refine RH.q hh (Calm.sq (Calm.bk (Calm.sq Calm.body))) rfl (by kernel_rfl) (Qt.ld rfl (fun _ h => h) (by first  | rfl)) ?_
    refine RH.q hh (Calm.sq (Calm.bk (Calm.sq Calm.body))) rfl (by kernel_rfl) (Qt.fld rfl) ?_
    refine RH.q hh (Calm.sq (Calm.bk (Calm.sq Calm.body))) rfl (by kernel_rfl) (Qt.ldA rfl (fun _ h => h) (by exact hkx) (by exact Nat.le_of_ble_eq_true rfl)) ?_
    refine RH.e hh rfl (by kernel_rfl) (Ef.call hS (prPutC p np nt queue B L x.proc x.id x.k hk hB) rfl rfl Try.call15 [1] [0, 2, 3] (by decide) rfl rfl) ?_
    rintro v26 w ⟨ps, ⟨rfl, rfl⟩, hS⟩
    refine ⟨(by exact hS.get 1 rfl), ?_⟩
    refine RH.e hh rfl (by kernel_rfl) (Ef.call hS (rpPut r np nt queue L x.proc x.id x.k hk) rfl rfl Try.call57 [2] [0, 1, 3] (by decide) rfl rfl) ?_
    rintro v34 w ⟨ps, ⟨rfl, rfl⟩, hS⟩
    refine ⟨(by exact hS.get 2 rfl), ?_⟩
    refine RH.q hh (Calm.sq (Calm.bk (Calm.sq Calm.body))) rfl (by kernel_rfl) (Qt.eql rfl rfl) ?_
    refine RH.q hh (Calm.sq (Calm.bk (Calm.sq Calm.body))) rfl (by kernel_rfl) (Qt.as rfl) ?_
    refine RH.done hh (by kernel_rfl) ?_
    refine RL.nil ?_
    refine RE.sqN ?_
    refine RC.ret ?_
    refine RE.bkR ?_
    refine RE.sqR ?_
    refine RE.retB rfl ⟨by simp [oneOf], rfl⟩ (hS.pick [1, 0, 3] (by decide) rfl)
  · skip
    have h : ¬ x.kind = 0 := of_decide_eq_false h
    refine RC.seq ?_
    refine RC.region rfl ?_
    refine RL.q (Qt.eql rfl rfl) ?_
    refine RL.q (Qt.as rfl) ?_
    refine RL.nil ?_
    refine RE.sqN ?_
    refine RC.cond rfl (fun h2 => ?_) (fun h2 => ?_)
    · skip
      have h2 : x.kind = 1 := of_decide_eq_true h2
      have e : prDo L np nt queue x = prChg L nt x.id x.k := by rw [prDo, if_neg h, if_pos h2]
      rw [e]
      refine RC.seq ?_
      refine RC.drawn 14 [0, 1, 2, 3, 4, 6, 7, 8, 9, 10, 5, 11, 12, 13] (fun w' => w'.heap[b5]? = some (.cells x.cells.toArray 41 (0, 0))) (by kernel_rfl) (by kernel_rfl) ((by exact hS.drew.get 0 rfl)) (fun hh => ?_)
      replace hS := hS.drew
      refine RH.q hh (Calm.sq (Calm.bk (Calm.sq Calm.body))) rfl (by kernel_rfl) (Qt.mv rfl) ?_
      refine RH.q hh (Calm.sq (Calm.bk (Calm.sq Calm.body))) rfl (by kernel_rfl) (Qt.fld rfl) ?_
      refine RH.q hh (Calm.sq (Calm.bk (Calm.sq Calm.body))) rfl (by kernel_rfl) (Qt.ld rfl (fun _ h => h) (by first  | rfl)) ?_
      refine RH.q hh (Calm.sq (Calm.bk (Calm.sq Calm.body))) rfl (by kernel_rfl) (Qt.fld rfl) ?_
      refine RH.q hh (Calm.sq (Calm.bk (Calm.sq Calm.body))) rfl (by kernel_rfl) (Qt.ldA rfl (fun _ h => h) (by exact hkx) (by exact Nat.le_of_ble_eq_true rfl)) ?_
      refine RH.q hh (Calm.sq (Calm.bk (Calm.sq Calm.body))) rfl (by kernel_rfl) (Qt.mv rfl) ?_
      refine RH.q hh (Calm.sq (Calm.bk (Calm.sq Calm.body))) rfl (by kernel_rfl) (Qt.fld rfl) ?_
      refine RH.q hh (Calm.sq (Calm.bk (Calm.sq Calm.body))) rfl (by kernel_rfl) (Qt.ld rfl (fun _ h => h) (by first  | rfl)) ?_
      refine RH.q hh (Calm.sq (Calm.bk (Calm.sq Calm.body))) rfl (by kernel_rfl) (Qt.fld rfl) ?_
      refine RH.q hh (Calm.sq (Calm.bk (Calm.sq Calm.body))) rfl (by kernel_rfl) (Qt.ldA rfl (fun _ h => h) (by exact hkx) (by exact Nat.le_of_ble_eq_true rfl)) ?_
      refine RH.e hh rfl (by kernel_rfl) (Ef.call hS (prChange p np nt queue B L x.id x.k hk hB) rfl rfl Try.call32 [1] [0, 2, 3] (by decide) rfl rfl) ?_
      rintro v43 w ⟨ps, ⟨rfl, rfl⟩, hS⟩
      refine ⟨(by exact hS.get 1 rfl), ?_⟩
      refine RH.e hh rfl (by kernel_rfl) (Ef.call hS (rpChange r np nt queue L x.id x.k hk) rfl rfl Try.call58 [2] [0, 1, 3] (by decide) rfl rfl) ?_
      rintro v49 w ⟨ps, ⟨rfl, rfl⟩, hS⟩
      refine ⟨(by exact hS.get 2 rfl), ?_⟩
      refine RH.q hh (Calm.sq (Calm.bk (Calm.sq Calm.body))) rfl (by kernel_rfl) (Qt.eql rfl rfl) ?_
      refine RH.q hh (Calm.sq (Calm.bk (Calm.sq Calm.body))) rfl (by kernel_rfl) (Qt.as rfl) ?_
      refine RH.done hh (by kernel_rfl) ?_
      refine RL.nil ?_
      refine RE.sqN ?_
      refine RC.ret ?_
      refine RE.bkR ?_
      refine RE.sqR ?_
      refine RE.retB rfl ⟨by simp [oneOf], rfl⟩ (hS.pick [1, 0, 3] (by decide) rfl)
    · skip
      have h2 : ¬ x.kind = 1 := of_decide_eq_false h2
      refine RC.seq ?_
      refine RC.region rfl ?_
      refine RL.q (Qt.eql rfl rfl) ?_
      refine RL.q (Qt.as rfl) ?_
      refine RL.nil ?_
      refine RE.sqN ?_
      refine RC.cond rfl (fun h3 => ?_) (fun h3 => ?_)
      · skip
        have h3 : x.kind = 2 := of_decide_eq_true h3
        have e : prDo L np nt queue x = prRem L nt x.id := by rw [prDo, if_neg h, if_neg h2, if_pos h3]
        rw [e]
        refine RC.seq ?_
        refine RC.drawn 10 [0, 1, 2, 4, 5, 6, 3, 7, 8, 9] (fun w' => w'.heap[b5]? = some (.cells x.cells.toArray 41 (0, 0))) (by kernel_rfl) (by kernel_rfl) ((by exact hS.drew.get 0 rfl)) (fun hh => ?_)
        replace hS := hS.drew
        refine RH.q hh (Calm.sq (Calm.bk (Calm.sq Calm.body))) rfl (by kernel_rfl) (Qt.mv rfl) ?_
        refine RH.q hh (Calm.sq (Calm.bk (Calm.sq Calm.body))) rfl (by kernel_rfl) (Qt.fld rfl) ?_
        refine RH.q hh (Calm.sq (Calm.bk (Calm.sq Calm.body))) rfl (by kernel_rfl) (Qt.ld rfl (fun _ h => h) (by first  | rfl)) ?_
        refine RH.q hh (Calm.sq (Calm.bk (Calm.sq Calm.body))) rfl (by kernel_rfl) (Qt.mv rfl) ?_
        refine RH.q hh (Calm.sq (Calm.bk (Calm.sq Calm.body))) rfl (by kernel_rfl) (Qt.fld rfl) ?_
        refine RH.q hh (Calm.sq (Calm.bk (Calm.sq Calm.body))) rfl (by kernel_rfl) (Qt.ld rfl (fun _ h => h) (by first  | rfl)) ?_
        refine RH.e hh rfl (by kernel_rfl) (Ef.call hS (prRemove p np nt queue B L x.id) rfl rfl Try.call33 [1] [0, 2, 3] (by decide) rfl rfl) ?_
        rintro v56 w ⟨ps, ⟨rfl, rfl⟩, hS⟩
        refine ⟨(by exact hS.get 1 rfl), ?_⟩
        refine RH.e hh rfl (by kernel_rfl) (Ef.call hS (rpRemove r np nt queue L x.id) rfl rfl Try.call50 [2] [0, 1, 3] (by decide) rfl rfl) ?_
        rintro v60 w ⟨ps, ⟨rfl, rfl⟩, hS⟩
        refine ⟨(by exact hS.get 2 rfl), ?_⟩
        refine RH.q hh (Calm.sq (Calm.bk (Calm.sq Calm.body))) rfl (by kernel_rfl) (Qt.eql rfl rfl) ?_
        refine RH.q hh (Calm.sq (Calm.bk (Calm.sq Calm.body))) rfl (by kernel_rfl) (Qt.as rfl) ?_
        refine RH.done hh (by kernel_rfl) ?_
        refine RL.nil ?_
        refine RE.sqN ?_
        refine RC.ret ?_
        refine RE.bkR ?_
        refine RE.sqR ?_
        refine RE.retB rfl ⟨by simp [oneOf], rfl⟩ (pO_mono (B := B) (B' := B + 1) (by omega) (hS.pick [1, 0, 3] (by decide) rfl))
      · skip
        have h3 : ¬ x.kind = 2 := of_decide_eq_false h3
        refine RC.seq ?_
        refine RC.region rfl ?_
        refine RL.q (Qt.eql rfl rfl) ?_
        refine RL.q (Qt.as rfl) ?_
        refine RL.nil ?_
        refine RE.sqN ?_
        refine RC.cond rfl (fun h4 => ?_) (fun h4 => ?_)
        · skip
          have h4 : x.kind = 3 := of_decide_eq_true h4
          have e : prDo L np nt queue x = prTake L (prB L np x.proc x.draw) := by rw [prDo, if_neg h, if_neg h2, if_neg h3, if_pos h4]
          rw [e]
          refine RC.seq ?_
          refine RC.region rfl ?_
          refine RL.q (Qt.mv rfl) ?_
          refine RL.q (Qt.fld rfl) ?_
          refine RL.q (Qt.ld rfl (by exact hS.at 0 rfl) (by first  | rfl)) ?_
          refine RL.q (Qt.fld rfl) ?_
          refine RL.q (Qt.ld rfl (by exact hS.at 0 rfl) (by first  | rfl)) ?_
          refine RL.e (Ef.call hS (prTakeC p np nt queue B L x.proc x.draw hdr) rfl rfl Try.call19 [1] [0, 2, 3] (by decide) rfl rfl) ?_
          rintro v70 w ⟨ps, ⟨rfl, rfl⟩, hS⟩
          refine RL.q (Qt.mv rfl) ?_
          refine RL.q (Qt.ext rfl rfl) ?_
          refine RL.q (Qt.ext rfl rfl) ?_
          refine RL.q (Qt.ext rfl rfl) ?_
          refine RL.q (Qt.ext rfl rfl) ?_
          refine RL.e (Ef.alloc hS) ?_
          rintro _ w ⟨b8, rfl, hS⟩
          try simp (disch := omega) only [cells_agg'] at hS
          refine RL.q (Qt.as rfl) ?_
          refine RL.e0 (Ef.st hS 0 rfl rfl rfl (by rfl) (by rfl) (by exact Nat.le_of_ble_eq_true rfl)) ?_
          intro _ w hS
          simp (disch := omega) only [List.set_cons_zero, cells_agg'] at hS
          refine RL.q (Qt.as rfl) ?_
          refine RL.q (Qt.as rfl) ?_
          refine RL.nil ?_
          refine RE.sqN ?_
          refine RC.seq ?_
          refine RC.region rfl ?_
          refine RL.q (Qt.mv rfl) ?_
          refine RL.q (Qt.fld rfl) ?_
          refine RL.q (Qt.ld rfl (by exact hS.at 2 rfl) (by first  | rfl)) ?_
          refine RL.q (Qt.fld rfl) ?_
          refine RL.q (Qt.ld rfl (by exact hS.at 2 rfl) (by first  | rfl)) ?_
          refine RL.e (Ef.call hS (rpTake r np nt queue L x.proc x.draw hdr) rfl rfl Try.call59 [3] [0, 1, 2, 4] (by decide) rfl rfl) ?_
          rintro v81 w ⟨ps, ⟨rfl, rfl⟩, hS⟩
          refine RL.q (Qt.mv rfl) ?_
          refine RL.q (Qt.ext rfl rfl) ?_
          refine RL.q (Qt.ext rfl rfl) ?_
          refine RL.q (Qt.ext rfl rfl) ?_
          refine RL.q (Qt.ext rfl rfl) ?_
          refine RL.e (Ef.alloc hS) ?_
          rintro _ w ⟨b12, rfl, hS⟩
          try simp (disch := omega) only [cells_agg'] at hS
          refine RL.q (Qt.as rfl) ?_
          refine RL.e0 (Ef.st hS 0 rfl rfl rfl (by rfl) (by rfl) (by exact Nat.le_of_ble_eq_true rfl)) ?_
          intro _ w hS
          simp (disch := omega) only [List.set_cons_zero, cells_agg'] at hS
          refine RL.q (Qt.as rfl) ?_
          refine RL.q (Qt.as rfl) ?_
          refine RL.nil ?_
          refine RE.sqN ?_
          refine RC.seq ?_
          refine RC.region rfl ?_
          refine RL.q (Qt.mv rfl) ?_
          refine RL.q (Qt.mv rfl) ?_
          refine RL.q (Qt.eql rfl rfl) ?_
          refine RL.q (Qt.mv rfl) ?_
          refine RLG.start 89 true rfl ?_
          refine RLG.q rfl rfl rfl (fun hg => by (try simp only [decide_eq_true_eq] at hg); exact Qt.ldA rfl (by exact hS.at 2 rfl) (by exact hkw _) (by exact Nat.le_of_ble_eq_true rfl)) ?_
          refine RLG.q rfl rfl rfl (fun hg => by (try simp only [decide_eq_true_eq] at hg); exact Qt.ldA rfl (by exact hS.at 0 rfl) (by exact hkw _) (by exact Nat.le_of_ble_eq_true rfl)) ?_
          refine RLG.q rfl rfl rfl (fun hg => by (try simp only [decide_eq_true_eq] at hg); exact Qt.eqlT rfl rfl (keyEq (prBK L (prB L np x.proc x.draw)) (prBK L (prB L np x.proc x.draw)))) ?_
          refine RLG.and rfl rfl ?_
          refine RL.q (Qt.mv rfl) ?_
          refine RLG.start 94 true rfl ?_
          refine RLG.q rfl rfl rfl (fun _ => Qt.mv rfl) ?_
          refine RLG.q rfl rfl rfl (fun _ => Qt.mv rfl) ?_
          refine RLG.q rfl rfl rfl (fun hg => by (try simp only [decide_eq_true_eq, Bool.and_eq_true] at hg); exact Qt.eql rfl rfl) ?_
          refine RLG.and rfl rfl ?_
          refine RL.q (Qt.mv rfl) ?_
          refine RLG.start 99 true rfl ?_
          refine RLG.q rfl rfl rfl (fun _ => Qt.mv rfl) ?_
          refine RLG.q rfl rfl rfl (fun _ => Qt.mv rfl) ?_
          refine RLG.q rfl rfl rfl (fun hg => by (try simp only [decide_eq_true_eq, Bool.and_eq_true] at hg); exact Qt.eqlB rfl rfl) ?_
          refine RLG.and rfl rfl ?_
          refine RL.q (Qt.as rfl) ?_
          refine RL.nil ?_
          refine RE.sqN ?_
          refine RC.ret ?_
          refine RE.bkR ?_
          refine RE.sqR ?_
          refine RE.retB rfl ⟨by simp [oneOf], rfl⟩ (pO_mono (B := B) (B' := B + 1) (by omega) (hS.pick [3, 1, 5] (by decide) rfl))
        · refine RC.skip ?_
          refine RE.bkN ?_
          refine RE.sqN ?_
          refine RC.seq ?_
          refine RC.region rfl ?_
          refine RL.q (Qt.as rfl) ?_
          refine RL.nil ?_
          refine RE.sqN ?_
          refine RC.ret ?_
          have h4 : ¬ x.kind = 3 := of_decide_eq_false h4
          have e : prDo L np nt queue x = L := by rw [prDo, if_neg h, if_neg h2, if_neg h3, if_neg h4]
          rw [e]
          exact RE.retB rfl ⟨rfl, rfl⟩ (pO_mono (B := B) (B' := B + 1) (by omega) (hS.pick [1, 2, 3] (by decide) rfl))

theorem PrOk.do {np nt : Nat} {L : List (List KItem)} {queue : Int} (h : PrOk np nt L) {x : ODeed} (hx : x.ok) : PrOk np nt (prDo L np nt queue x) := by
  unfold prDo
  split
  · exact h.put queue hx.1
  · split
    · exact h.chg hx.1
    · split
      · exact h.rem _
      · split
        · exact h.take _
        · exact h
theorem prNewI (np nt : Nat) (m queue : Int) (hm : m = np) (h0 : 1 ≤ np) (h1 : np ≤ 64) (h2 : 1 ≤ nt) (h3 : nt ≤ 1024) (h4 : 1 ≤ queue) (h5 : queue ≤ 256) : Ct Try.prog 14 #[.int .i64 m, .int .i64 nt, .int .i64 queue] [] (fun v ps => (∃ b, v = .pointer (some ⟨b, 0, none⟩)) ∧ ps = [pO v np nt queue 0 (List.replicate (np + 1) [])]) := by
  subst hm; exact prNew np nt queue h0 h1 h2 h3 h4 h5
theorem rpNewI (np nt : Nat) (m queue : Int) (hm : m = np) (h0 : 1 ≤ np) (h1 : np ≤ 64) (h2 : 1 ≤ nt) (h3 : nt ≤ 1024) (h4 : 1 ≤ queue) (h5 : queue ≤ 256) : Ct Try.prog 44 #[.int .i64 m, .int .i64 nt, .int .i64 queue] [] (fun v ps => (∃ b, v = .pointer (some ⟨b, 0, none⟩)) ∧ ps = [rpO v np nt queue (List.replicate (np + 1) [])]) := by
  subst hm; exact rpNew np nt queue h0 h1 h2 h3 h4 h5
/-- How many processors and how long a place a number asks for. -/
def prNp (n : Int) : Nat := (n % 4).toNat + 1
def prQu (n : Int) : Int := n / 4 % 3 + 1

set_option maxHeartbeats 2000000 in
theorem prPlay (n : Int) (hn : 0 ≤ n ∧ n ≤ 255) (v : Value) (ds : List ODeed) (F0 : Frag) (hR : ODeedsAt v ds F0) (hd : ∀ x ∈ ds, x.ok) : Ct Try.prog 22 #[.int .u8 n, v] [pin F0] (fun v' ps => ∃ b r L, v' = .tuple #[.pointer (some ⟨b, 0, none⟩), r, .bool true] ∧ PrOk (prNp n) 10 L ∧ PrRoom (prNp n) (prQu n) L ∧ ps = [pO (.pointer (some ⟨b, 0, none⟩)) (prNp n) 10 (prQu n) 80 L, rpO r (prNp n) 10 (prQu n) L, pin F0]) := by
  obtain ⟨pa, cap, rfl, hR⟩ := hR
  have hnp : n % 4 + 1 = (prNp n : Nat) := by unfold prNp; omega
  have hqu : 1 ≤ prQu n ∧ prQu n ≤ 256 := by unfold prQu; omega
  refine Ct.enter Try.func22 rfl (Nat.le_of_ble_eq_true rfl) ?_
  intro oo w R hS
  change RC _ _ _ _ _ _ [(0, _), (1, _)] _
  refine RC.seq ?_
  refine RC.region rfl ?_
  refine RL.q (Qt.as rfl) ?_
  refine RL.q (Qt.as rfl) ?_
  refine RL.q (Qt.as rfl) ?_
  refine RL.nil ?_
  refine RE.sqN ?_
  refine RC.seq ?_
  refine RC.region rfl ?_
  refine RL.q (Qt.mv rfl) ?_
  refine RL.q ((by exact Qt.cvtI rfl (by dsimp only [inK]; omega))) ?_
  refine RL.q ((by exact Qt.remI rfl rfl (by omega))) ?_
  refine RL.q ((by exact Qt.addI rfl rfl (by dsimp only [inK]; omega))) ?_
  refine RL.q (Qt.mv rfl) ?_
  refine RL.q ((by exact Qt.cvtI rfl (by dsimp only [inK]; omega))) ?_
  refine RL.q ((by exact Qt.quoI rfl rfl (by dsimp only [inK]; omega) (by omega))) ?_
  refine RL.q ((by exact Qt.remI rfl rfl (by omega))) ?_
  refine RL.q ((by exact Qt.addI rfl rfl (by dsimp only [inK]; omega))) ?_
  refine RL.e (Ef.call hS (prNewI (prNp n) 10 (n % 4 + 1) (prQu n) hnp (by omega) (by omega) (by decide) (by decide) hqu.1 hqu.2) rfl rfl Try.call14 [] [0, 1] (by decide) rfl rfl) ?_
  rintro v19 w ⟨ps, ⟨⟨bq, rfl⟩, rfl⟩, hS⟩
  refine RL.q (Qt.mv rfl) ?_
  refine RL.q ((by exact Qt.cvtI rfl (by dsimp only [inK]; omega))) ?_
  refine RL.q ((by exact Qt.remI rfl rfl (by omega))) ?_
  refine RL.q ((by exact Qt.addI rfl rfl (by dsimp only [inK]; omega))) ?_
  refine RL.q (Qt.mv rfl) ?_
  refine RL.q ((by exact Qt.cvtI rfl (by dsimp only [inK]; omega))) ?_
  refine RL.q ((by exact Qt.quoI rfl rfl (by dsimp only [inK]; omega) (by omega))) ?_
  refine RL.q ((by exact Qt.remI rfl rfl (by omega))) ?_
  refine RL.q ((by exact Qt.addI rfl rfl (by dsimp only [inK]; omega))) ?_
  refine RL.e (Ef.call hS (rpNewI (prNp n) 10 (n % 4 + 1) (prQu n) hnp (by omega) (by omega) (by decide) (by decide) hqu.1 hqu.2) rfl rfl Try.call44 [] [0, 1, 2] (by decide) rfl rfl) ?_
  rintro v29 w ⟨ps, ⟨⟨br, rfl⟩, rfl⟩, hS⟩
  refine RL.q (Qt.as rfl) ?_
  refine RL.q (Qt.as rfl) ?_
  refine RL.nil ?_
  refine RE.sqN ?_
  refine RC.seq ?_
  refine RC.seq ?_
  refine RC.region rfl ?_
  refine RL.q (Qt.as rfl) ?_
  refine RL.nil ?_
  refine RE.sqN ?_
  refine RC.block ?_
  refine RC.loop (γ := Nat × List (List KItem)) (fun g E w' => E = [(9, .int .i64 g.1), (7, .pointer (some ⟨bq, 0, none⟩)), (8, .pointer (some ⟨br, 0, none⟩)), (1, .slice pa ds.length cap)] ∧ Sat oo w' [pO (.pointer (some ⟨bq, 0, none⟩)) (prNp n) 10 (prQu n) g.1 g.2, rpO (.pointer (some ⟨br, 0, none⟩)) (prNp n) 10 (prQu n) g.2, pin F0, R] ∧ g.1 ≤ ds.length ∧ g.1 ≤ 80 ∧ PrOk (prNp n) 10 g.2 ∧ PrRoom (prNp n) (prQu n) g.2) (fun g => ds.length - g.1) (0, List.replicate (prNp n + 1) []) _ (by (repeat (first | exact Sub.nil | refine Sub.cons rfl ?_))) ⟨rfl, hS.pick [1, 0, 2, 3] (by decide) rfl, by simp, by simp, PrOk.empty, PrRoom.empty (by omega)⟩ ?_
  clear hS
  rintro ⟨k, L⟩ E w ⟨rfl, hS, hk, hk2, hok, hro⟩
  dsimp only at hk hk2 hS hok hro
  refine RC.seq ?_
  refine RC.seq ?_
  refine RC.region rfl ?_
  refine RL.q (Qt.mv rfl) ?_
  refine RL.q (Qt.mv rfl) ?_
  refine RL.q (Qt.lenS rfl) ?_
  refine RL.q (Qt.lss rfl rfl) ?_
  refine RL.q (Qt.mv rfl) ?_
  refine RLG.start 34 true rfl ?_
  refine RLG.q rfl rfl rfl (fun _ => Qt.mv rfl) ?_
  refine RLG.q rfl rfl rfl (fun hg => by (try simp only [decide_eq_true_eq] at hg); exact Qt.lss rfl rfl) ?_
  refine RLG.and rfl rfl ?_
  refine RL.nil ?_
  refine RE.sqN ?_
  refine RC.cond rfl (fun h => ?_) (fun h => ?_)
  · skip
    have h : k < ds.length ∧ k < 80 := by
      simp only [Bool.and_eq_true, decide_eq_true_eq] at h
      omega
    obtain ⟨b, off, c, T, fz, rfl, hmem, hle, hrow⟩ := hR (by omega)
    have hrow := hrow k h.1
    refine RC.skip ?_
    refine RE.sqN ?_
    refine RC.seq ?_
    refine RC.block ?_
    refine RC.seq ?_
    refine RC.region rfl ?_
    refine RL.q (Qt.mv rfl) ?_
    refine RL.q (Qt.mv rfl) ?_
    refine RL.q (Qt.mv rfl) ?_
    refine RL.q (Qt.mv rfl) ?_
    refine RL.q (Qt.ixS rfl rfl (by omega) (by omega)) ?_
    refine RL.q (Qt.ldA rfl (hS.atPin 2 rfl hmem) (by exact hrow) (by omega)) ?_
    refine RL.e (Ef.call hS (prDoC _ (.pointer (some ⟨br, 0, none⟩)) _ _ _ k L ds[k] (hd _ (List.getElem_mem h.1)) (by omega)) rfl rfl Try.call35 [0, 1] [2, 3] (by decide) rfl rfl) ?_
    rintro v46 w ⟨ps, ⟨rfl, rfl⟩, hS⟩
    refine RL.q (Qt.not rfl) ?_
    refine RL.nil ?_
    refine RE.sqN ?_
    refine RC.condF rfl (rfl) ?_
    refine RC.skip ?_
    refine RE.bkN ?_
    refine RE.sqN ?_
    refine RC.region rfl ?_
    refine RL.q (Qt.mv rfl) ?_
    refine RL.q ((by exact Qt.addI rfl rfl (by dsimp only [inK]; omega))) ?_
    refine RL.q (Qt.as rfl) ?_
    refine RL.nil ?_
    apply RE.lpN ((k + 1, prDo L (prNp n) 10 (prQu n) ds[k]))
    case hI => exact ⟨rfl, hS, h.1, h.2, hok.do (hd _ (List.getElem_mem h.1)), hro.do hok _⟩
    case hs => (repeat (first | exact Sub.nil | refine Sub.cons rfl ?_))
    case hm =>
      show ds.length - (k + 1) < ds.length - k
      omega
  · refine RC.exit ?_
    refine RE.sqX ?_
    refine RE.lpX ?_
    refine RE.bkX ?_
    refine RE.sqN ?_
    refine RC.seq ?_
    refine RC.region rfl ?_
    refine RL.q (Qt.mv rfl) ?_
    refine RL.q (Qt.mv rfl) ?_
    refine RL.q (Qt.as rfl) ?_
    refine RL.q (Qt.as rfl) ?_
    refine RL.q (Qt.as rfl) ?_
    refine RL.nil ?_
    refine RE.sqN ?_
    refine RC.ret ?_
    exact RE.retB rfl ⟨bq, .pointer (some ⟨br, 0, none⟩), L, rfl, hok, hro, rfl⟩ (pO_mono (by omega) hS)

theorem prList_len {np nt : Nat} {L : List (List KItem)} (hp : PrOk np nt L) (a : Int) : (prList L np a).length ≤ nt := by
  unfold prList
  split
  · simp
  · rw [kIds, List.length_map]
    have hl := hp.len
    rw [getD_at (by omega)]
    exact (hp.at _).lenLe

set_option maxHeartbeats 4000000 in
theorem prSame (p r : Value) (np nt : Nat) (queue B : Int) (L : List (List KItem)) (x : ODeed) (hx : x.ok) : Ct Try.prog 31 #[p, r, x.val] [pO p np nt queue B L, rpO r np nt queue L] (fun v ps => v = .bool true ∧ ps = [pO p np nt queue B L, rpO r np nt queue L]) := by
  refine Ct.enter Try.func31 rfl (Nat.le_of_ble_eq_true rfl) ?_
  intro oo w R hS
  change RC _ _ _ _ _ _ [(0, _), (1, _), (2, _)] _
  obtain ⟨b, r0, sp0, cap0, vs0, es0, rfl, hp, hv0, ha0, hnp, hnt, hS⟩ := pO_open hS
  have hS := pO_shut hp hv0 ha0 hnp hnt hS
  obtain ⟨hk, hdr⟩ := hx
  have hkw : ∀ k : KKey, (wr #[.bool false, .int .u64 0, .int .u8 0] 0 k.cells).extract 0 (0 + 3) = k.cells.toArray := fun k => rfl
  refine RC.seq ?_
  refine RC.region rfl ?_
  refine RL.e (Ef.box hS rfl) ?_
  rintro _ w ⟨b5, rfl, hS⟩
  try simp (disch := omega) only [List.set_cons_zero, List.set_cons_succ, cells_int, cells_bool, cells_ptr, cells_slice, cells_func, cells_agg, cells_map, cells_int', cells_bool', cells_ptr', cells_slice', cells_agg', cells_map', cells_func', Nat.zero_add, wr, List.setIfInBounds_toArray] at hS
  refine RL.q (Qt.as rfl) ?_
  refine RL.nil ?_
  refine RE.sqN ?_
  refine RC.seq ?_
  refine RC.region rfl ?_
  refine RL.q (Qt.mv rfl) ?_
  refine RL.q (Qt.fld rfl) ?_
  refine RL.q (Qt.ld rfl (by exact hS.at 0 rfl) (by first  | rfl)) ?_
  refine RL.q (Qt.fld rfl) ?_
  refine RL.q (Qt.ld rfl (by exact hS.at 0 rfl) (by first  | rfl)) ?_
  refine RL.e (Ef.call hS (prBest _ np nt queue B L x.proc x.draw hdr) rfl rfl Try.call18 [1] [0, 2, 3] (by decide) rfl rfl) ?_
  rintro v26 w ⟨ps, ⟨rfl, rfl⟩, hS⟩
  refine RL.q (Qt.mv rfl) ?_
  refine RL.q (Qt.ext rfl rfl) ?_
  refine RL.q (Qt.ext rfl rfl) ?_
  refine RL.q (Qt.ext rfl rfl) ?_
  refine RL.q (Qt.ext rfl rfl) ?_
  refine RL.e (Ef.alloc hS) ?_
  rintro _ w ⟨b8, rfl, hS⟩
  try simp (disch := omega) only [cells_agg'] at hS
  refine RL.q (Qt.as rfl) ?_
  refine RL.e0 (Ef.st hS 0 rfl rfl rfl (by rfl) (by rfl) (by exact Nat.le_of_ble_eq_true rfl)) ?_
  intro _ w hS
  simp (disch := omega) only [List.set_cons_zero, cells_agg'] at hS
  refine RL.q (Qt.as rfl) ?_
  refine RL.q (Qt.as rfl) ?_
  refine RL.nil ?_
  refine RE.sqN ?_
  refine RC.seq ?_
  refine RC.region rfl ?_
  refine RL.q (Qt.mv rfl) ?_
  refine RL.q (Qt.fld rfl) ?_
  refine RL.q (Qt.ld rfl (by exact hS.at 2 rfl) (by first  | rfl)) ?_
  refine RL.q (Qt.fld rfl) ?_
  refine RL.q (Qt.ld rfl (by exact hS.at 2 rfl) (by first  | rfl)) ?_
  refine RL.e (Ef.call hS (rpBest r np nt queue L x.proc x.draw hdr) rfl rfl Try.call51 [3] [0, 1, 2, 4] (by decide) rfl rfl) ?_
  rintro v37 w ⟨ps, ⟨rfl, rfl⟩, hS⟩
  refine RL.q (Qt.mv rfl) ?_
  refine RL.q (Qt.ext rfl rfl) ?_
  refine RL.q (Qt.ext rfl rfl) ?_
  refine RL.q (Qt.ext rfl rfl) ?_
  refine RL.q (Qt.ext rfl rfl) ?_
  refine RL.e (Ef.alloc hS) ?_
  rintro _ w ⟨b12, rfl, hS⟩
  try simp (disch := omega) only [cells_agg'] at hS
  refine RL.q (Qt.as rfl) ?_
  refine RL.e0 (Ef.st hS 0 rfl rfl rfl (by rfl) (by rfl) (by exact Nat.le_of_ble_eq_true rfl)) ?_
  intro _ w hS
  simp (disch := omega) only [List.set_cons_zero, cells_agg'] at hS
  refine RL.q (Qt.as rfl) ?_
  refine RL.q (Qt.as rfl) ?_
  refine RL.nil ?_
  refine RE.sqN ?_
  refine RC.seq ?_
  refine RC.region rfl ?_
  refine RL.q (Qt.mv rfl) ?_
  refine RL.q (Qt.fld rfl) ?_
  refine RL.q (Qt.ld rfl (by exact hS.at 4 rfl) (by first  | rfl)) ?_
  refine RL.e (Ef.call hS (prWhere _ np nt queue B L x.id) rfl rfl Try.call24 [3] [0, 1, 2, 4, 5] (by decide) rfl rfl) ?_
  rintro v46 w ⟨ps, ⟨rfl, rfl⟩, hS⟩
  refine RL.q (Qt.mv rfl) ?_
  refine RL.q (Qt.ext rfl rfl) ?_
  refine RL.q (Qt.ext rfl rfl) ?_
  refine RL.q (Qt.as rfl) ?_
  refine RL.q (Qt.as rfl) ?_
  refine RL.nil ?_
  refine RE.sqN ?_
  refine RC.seq ?_
  refine RC.region rfl ?_
  refine RL.q (Qt.mv rfl) ?_
  refine RL.q (Qt.fld rfl) ?_
  refine RL.q (Qt.ld rfl (by exact hS.at 4 rfl) (by first  | rfl)) ?_
  refine RL.e (Ef.call hS (rpWhere r np nt queue L x.id) rfl rfl Try.call52 [2] [0, 1, 3, 4, 5] (by decide) rfl rfl) ?_
  rintro v53 w ⟨ps, ⟨rfl, rfl⟩, hS⟩
  refine RL.q (Qt.mv rfl) ?_
  refine RL.q (Qt.ext rfl rfl) ?_
  refine RL.q (Qt.ext rfl rfl) ?_
  refine RL.q (Qt.as rfl) ?_
  refine RL.q (Qt.as rfl) ?_
  refine RL.nil ?_
  refine RE.sqN ?_
  refine RC.seq ?_
  refine RC.seq ?_
  refine RC.region rfl ?_
  refine RL.q (Qt.as rfl) ?_
  refine RL.nil ?_
  refine RE.sqN ?_
  refine RC.block ?_
  refine RC.loop (γ := Nat) (fun k E w' => E = [(19, .int .i64 ((k : Int) - 1)), (0, .pointer (some ⟨b, 0, none⟩)), (1, r), (7, .int .i64 (prBId L (prB L np x.proc x.draw))), (8, .pointer (some ⟨b8, 0, none⟩)), (9, .int .i64 (prBAt (prB L np x.proc x.draw))), (10, .bool (prBOk (prB L np x.proc x.draw))), (11, .int .i64 (prBId L (prB L np x.proc x.draw))), (12, .pointer (some ⟨b12, 0, none⟩)), (13, .int .i64 (prBAt (prB L np x.proc x.draw))), (14, .bool (prBOk (prB L np x.proc x.draw))), (15, .int .i64 (pwAt L x.id)), (16, .bool (pwOk L x.id)), (17, .int .i64 (pwAt L x.id)), (18, .bool (pwOk L x.id))] ∧ k ≤ 7 ∧
    Sat oo w' [rpO r np nt queue L, pO (.pointer (some ⟨b, 0, none⟩)) np nt queue B L, pt b12 (.cells (wr #[.bool false, .int .u64 0, .int .u8 0] 0 (prBK L (prB L np x.proc x.draw)).cells) 31 (0, 0)), pt b8 (.cells (wr #[.bool false, .int .u64 0, .int .u8 0] 0 (prBK L (prB L np x.proc x.draw)).cells) 31 (0, 0)), R]) (fun k => 7 - k) 0 _ (by (repeat (first | exact Sub.nil | refine Sub.cons rfl ?_))) ⟨rfl, by omega, hS.pick [0, 1, 2, 3, 5] (by decide) rfl⟩ ?_
  clear hS
  rintro k E w ⟨rfl, hk7, hS⟩
  refine RC.seq ?_
  refine RC.seq ?_
  refine RC.region rfl ?_
  refine RL.q (Qt.mv rfl) ?_
  refine RL.q (Qt.lss rfl rfl) ?_
  refine RL.nil ?_
  refine RE.sqN ?_
  refine RC.cond rfl (fun h => ?_) (fun h => ?_)
  · skip
    have h : k < 7 := by
      have := of_decide_eq_true h
      omega
    have hll := prList_len hp ((k : Int) - 1)
    refine RC.skip ?_
    refine RE.sqN ?_
    refine RC.seq ?_
    refine RC.block ?_
    refine RC.seq ?_
    refine RC.region rfl ?_
    refine RL.q (Qt.mv rfl) ?_
    refine RL.q (Qt.mv rfl) ?_
    refine RL.e (Ef.call hS (prListC _ np nt queue B L ((k : Int) - 1)) rfl rfl Try.call27 [1] [0, 2, 3, 4] (by decide) rfl rfl) ?_
    rintro v62 w ⟨ps, rfl, hS⟩
    refine RL.q (Qt.mv rfl) ?_
    refine RL.q (Qt.mv rfl) ?_
    refine RL.e (Ef.call hS (rpList r np nt queue L ((k : Int) - 1)) rfl rfl Try.call49 [2] [0, 1, 3, 4, 5] (by decide) rfl rfl) ?_
    rintro v65 w ⟨ps, rfl, hS⟩
    refine RL.e (Ef.call hS (rSame _ _ (prList L np ((k : Int) - 1)) (prList L np ((k : Int) - 1)) (by omega)) rfl rfl Try.call53 [2, 0] [1, 3, 4, 5, 6] (by decide) rfl rfl) ?_
    rintro v66 w ⟨ps, ⟨rfl, rfl⟩, hS⟩
    try rw [List.nil_append] at hS
    refine RL.q (Qt.not rfl) ?_
    refine RL.nil ?_
    refine RE.sqN ?_
    refine RC.condF rfl (by simp) ?_
    refine RC.skip ?_
    refine RE.bkN ?_
    refine RE.sqN ?_
    refine RC.region rfl ?_
    refine RL.q (Qt.mv rfl) ?_
    refine RL.q ((by exact Qt.addI rfl rfl (by dsimp only [inK]; omega))) ?_
    refine RL.q (Qt.as rfl) ?_
    refine RL.nil ?_
    apply RE.lpN (k + 1)
    case hI => exact ⟨by rw [show (((k + 1 : Nat) : Int)) - 1 = (k : Int) - 1 + 1 by omega], h, hS.pick [0, 1, 2, 3, 4] (by decide) rfl⟩
    case hs => (repeat (first | exact Sub.nil | refine Sub.cons rfl ?_))
    case hm =>
      show 7 - (k + 1) < 7 - k
      omega
  · skip
    refine RC.exit ?_
    refine RE.sqX ?_
    refine RE.lpX ?_
    refine RE.bkX ?_
    refine RE.sqN ?_
    refine RC.seq ?_
    refine RC.region rfl ?_
    refine RL.q (Qt.mv rfl) ?_
    refine RL.q (Qt.mv rfl) ?_
    refine RL.q (Qt.eql rfl rfl) ?_
    refine RL.q (Qt.mv rfl) ?_
    refine RLG.start 71 true rfl ?_
    refine RLG.q rfl rfl rfl (fun hg => by (try simp only [decide_eq_true_eq] at hg); exact Qt.ldA rfl (by exact hS.at 3 rfl) (by exact hkw _) (by exact Nat.le_of_ble_eq_true rfl)) ?_
    refine RLG.q rfl rfl rfl (fun hg => by (try simp only [decide_eq_true_eq] at hg); exact Qt.ldA rfl (by exact hS.at 2 rfl) (by exact hkw _) (by exact Nat.le_of_ble_eq_true rfl)) ?_
    refine RLG.q rfl rfl rfl (fun hg => by (try simp only [decide_eq_true_eq] at hg); exact Qt.eqlT rfl rfl (keyEq (prBK L (prB L np x.proc x.draw)) (prBK L (prB L np x.proc x.draw)))) ?_
    refine RLG.and rfl rfl ?_
    refine RL.q (Qt.mv rfl) ?_
    refine RLG.start 76 true rfl ?_
    refine RLG.q rfl rfl rfl (fun _ => Qt.mv rfl) ?_
    refine RLG.q rfl rfl rfl (fun _ => Qt.mv rfl) ?_
    refine RLG.q rfl rfl rfl (fun hg => by (try simp only [decide_eq_true_eq, Bool.and_eq_true] at hg); exact Qt.eql rfl rfl) ?_
    refine RLG.and rfl rfl ?_
    refine RL.q (Qt.mv rfl) ?_
    refine RLG.start 81 true rfl ?_
    refine RLG.q rfl rfl rfl (fun _ => Qt.mv rfl) ?_
    refine RLG.q rfl rfl rfl (fun _ => Qt.mv rfl) ?_
    refine RLG.q rfl rfl rfl (fun hg => by (try simp only [decide_eq_true_eq, Bool.and_eq_true] at hg); exact Qt.eqlB rfl rfl) ?_
    refine RLG.and rfl rfl ?_
    refine RL.q (Qt.mv rfl) ?_
    refine RLG.start 86 true rfl ?_
    refine RLG.q rfl rfl rfl (fun _ => Qt.mv rfl) ?_
    refine RLG.q rfl rfl rfl (fun _ => Qt.mv rfl) ?_
    refine RLG.q rfl rfl rfl (fun hg => by (try simp only [decide_eq_true_eq, Bool.and_eq_true] at hg); exact Qt.eql rfl rfl) ?_
    refine RLG.and rfl rfl ?_
    refine RL.q (Qt.mv rfl) ?_
    refine RLG.start 91 true rfl ?_
    refine RLG.q rfl rfl rfl (fun _ => Qt.mv rfl) ?_
    refine RLG.q rfl rfl rfl (fun _ => Qt.mv rfl) ?_
    refine RLG.q rfl rfl rfl (fun hg => by (try simp only [decide_eq_true_eq, Bool.and_eq_true] at hg); exact Qt.eqlB rfl rfl) ?_
    refine RLG.and rfl rfl ?_
    refine RL.q (Qt.mv rfl) ?_
    refine RL.q (Qt.mv rfl) ?_ (Runs.guard rfl rfl rfl (by simp))
    refine RL.e (Ef.call hS (prLenC _ np nt queue B L) rfl rfl Try.call21 [1] [0, 2, 3, 4] (by decide) rfl rfl) ?_ (Runs.guard rfl rfl rfl (by simp))
    rintro v98 w ⟨ps, ⟨rfl, rfl⟩, hS⟩
    refine RL.q (Qt.mv rfl) ?_ (Runs.guard rfl rfl rfl (by simp))
    refine RL.e (Ef.call hS (rpLen r np nt queue L) rfl rfl Try.call26 [1] [0, 2, 3, 4] (by decide) rfl rfl) ?_ (Runs.guard rfl rfl rfl (by simp))
    rintro v100 w ⟨ps, ⟨rfl, rfl⟩, hS⟩
    refine RL.q (Qt.eql rfl rfl) ?_ (Runs.guard rfl rfl rfl (by simp))
    refine RL.q ((by exact Qt.pickT rfl (by simp) rfl)) ?_
    refine RL.q (Qt.as rfl) ?_
    refine RL.nil ?_
    refine RE.sqN ?_
    refine RC.ret ?_
    exact RE.retB rfl ⟨by simp [oneOf], rfl⟩ (hS.pick [1, 0, 4] (by decide) rfl)
end Go.Proofs

/- The reference queue of layer 2: what each of its functions does. -/
import Derived.Test.YtfloihcepfpefaaGxT
import Derived.Test.YtfloihcepfpefaaBqP
namespace Go.Proofs
open Go Go.Gx
variable {oo : World}

def refQ (p : Value) (n : Nat) (l : List RItem) : HP := fun F => ∃ b s, (p = .pointer (some ⟨b, 0, none⟩) ∧ l.length ≤ 1000000) ∧ Star [pt b (.cells #[.int .i64 n, s] 68 (0, 0)), own s 72 2 l.length (l.flatMap RItem.cells)] F

theorem refQ_open {w : World} {L : List HP} {p : Value} {n : Nat} {l : List RItem} (h : Sat oo w (refQ p n l :: L)) :
    ∃ b sp cap, p = .pointer (some ⟨b, 0, none⟩) ∧ l.length ≤ 1000000 ∧ Sat oo w (pt b (.cells #[.int .i64 n, .slice sp l.length cap] 68 (0, 0)) :: own (.slice sp l.length cap) 72 2 l.length (l.flatMap RItem.cells) :: L) := by
  obtain ⟨⟨b, s⟩, h⟩ := h.ex (α := Nat × Value) 0 rfl (q := fun x F => (p = .pointer (some ⟨x.1, 0, none⟩) ∧ l.length ≤ 1000000) ∧ Star [pt x.1 (.cells #[.int .i64 n, x.2] 68 (0, 0)), own x.2 72 2 l.length (l.flatMap RItem.cells)] F) (fun F ⟨b, s, h⟩ => ⟨(b, s), h⟩)
  obtain ⟨h1, h2⟩ := h.fact 0 rfl (fun F hF => hF.1)
  have h3 := (h.imp 0 rfl (fun F hF => hF.2)).unstar
  obtain ⟨sp, cap, rfl⟩ := h3.ownForm 1 rfl
  exact ⟨b, sp, cap, h1, h2, h3⟩
theorem refQ_shut {w : World} {L : List HP} {b n : Nat} {s : Value} {l : List RItem} (hl : l.length ≤ 1000000)
    (h : Sat oo w (pt b (.cells #[.int .i64 n, s] 68 (0, 0)) :: own s 72 2 l.length (l.flatMap RItem.cells) :: L)) : Sat oo w (refQ (.pointer (some ⟨b, 0, none⟩)) n l :: L) := by
  have h1 := Sat.star (B := [pt b (.cells #[.int .i64 n, s] 68 (0, 0)), own s 72 2 l.length (l.flatMap RItem.cells)]) (L := L) h
  exact h1.imp 0 rfl (fun F hF => ⟨b, s, ⟨rfl, hl⟩, hF⟩)

def ratFrom : List RItem → Int → Int → Int
  | [], _, _ => -1
  | x :: xs, id, k => if x.id = id then k else ratFrom xs id (k + 1)
def rat (l : List RItem) (id : Int) : Int := ratFrom l id 0

theorem item_cell {c : Array Value} {l : List RItem} {m : Nat} (h : c.toList.take m = l.flatMap RItem.cells) (hm : m = l.length * 2) {i j : Nat} (hi : i < l.length) (hj : j < 2) : c[i * 2 + j]? = (RItem.cells l[i])[j]? := by
  rw [own_cell h (by omega), rows_cell RItem.cells 2 (fun _ => rfl) l i j hi hj]

theorem item_id {c : Array Value} {l : List RItem} {m : Nat} (h : c.toList.take m = l.flatMap RItem.cells) (hm : m = l.length * 2) {i : Nat} (hi : i < l.length) : c.toList[0 + ((i : Int)).toNat * 2 + 0]? = some (.int .i64 l[i].id) := by
  have := item_cell h hm hi (j := 0) (by decide)
  rw [show 0 + ((i : Int)).toNat * 2 + 0 = i * 2 + 0 by omega, Array.getElem?_toList, this]; rfl
theorem item_lv {c : Array Value} {l : List RItem} {m : Nat} (h : c.toList.take m = l.flatMap RItem.cells) (hm : m = l.length * 2) {i : Nat} (hi : i < l.length) : c.toList[0 + ((i : Int)).toNat * 2 + 1]? = some (.int .u8 l[i].lv) := by
  have := item_cell h hm hi (j := 1) (by decide)
  rw [show 0 + ((i : Int)).toNat * 2 + 1 = i * 2 + 1 by omega, Array.getElem?_toList, this]; rfl

set_option maxHeartbeats 1000000 in
theorem rqAt (p : Value) (n : Nat) (l : List RItem) (id : Int) : Ct Try.prog 44 #[p, .int .i64 id] [refQ p n l] (fun v ps => v = .int .i64 (rat l id) ∧ ps = [refQ p n l]) := by
  refine Ct.enter Try.func44 rfl (Nat.le_of_ble_eq_true rfl) ?_
  intro oo w R hS
  change RC _ _ _ _ _ _ [(0, _), (1, _)] _
  obtain ⟨b, sp, cap, rfl, hl, hS⟩ := refQ_open hS
  refine RC.seq ?_
  refine RC.region rfl ?_
  refine RL.q (Qt.as rfl) ?_
  refine RL.nil ?_
  refine RE.sqN ?_
  refine RC.seq ?_
  refine RC.seq ?_
  refine RC.region rfl ?_
  refine RL.q (Qt.as rfl) ?_
  refine RL.nil ?_
  refine RE.sqN ?_
  refine RC.block ?_
  -- stops: loop
  refine RC.loop (γ := Nat) (fun k E w' => E = [(5, .int .i64 k), (0, .pointer (some ⟨b, 0, none⟩)), (1, .int .i64 id)] ∧ w' = w ∧ k ≤ l.length ∧ ratFrom (l.drop k) id k = rat l id) (fun k => l.length - k) 0 _ (by (repeat (first | exact Sub.nil | refine Sub.cons rfl ?_))) ⟨rfl, rfl, by omega, rfl⟩ ?_
  rintro k E w' ⟨rfl, rfl, hk, hrat⟩
  refine RC.seq ?_
  refine RC.seq ?_
  refine RC.region rfl ?_
  refine RL.q (Qt.mv rfl) ?_
  refine RL.q (Qt.neqN rfl rfl) ?_
  refine RL.q (Qt.mv rfl) ?_
  refine RLG.start 8 true rfl ?_
  refine RLG.q rfl rfl rfl (fun _ => Qt.mv rfl) ?_
  refine RLG.q rfl rfl rfl (fun _ => Qt.mv rfl) ?_
  refine RLG.q rfl rfl rfl (fun _ => Qt.nil rfl) ?_
  refine RLG.q rfl rfl rfl (fun _ => Qt.fld rfl) ?_
  refine RLG.q rfl rfl rfl (fun hg => by (try simp only [Option.isSome_some] at hg); exact Qt.ld rfl (by first | exact hS.at 0 rfl | exact hS.at 1 rfl | exact hS.at 2 rfl) (by first  | rfl)) ?_
  refine RLG.q rfl rfl rfl (fun _ => Qt.lenS rfl) ?_
  refine RLG.q rfl rfl rfl (fun hg => by (try simp only [Option.isSome_some] at hg); exact Qt.lss rfl rfl) ?_
  refine RLG.and rfl rfl ?_
  refine RL.nil ?_
  refine RE.sqN ?_
  -- stops: cond
  refine RC.cond rfl (fun h => ?_) (fun h => ?_)
  · skip
    have hlt : k < l.length := by simpa using h
    have hS0 := hS
    obtain ⟨bs, cap', c, hv, hc1, hc2, hc3, hc4, hS⟩ := hS.ownPos 1 rfl (by omega)
    cases hv
    refine RC.skip ?_
    refine RE.sqN ?_
    refine RC.seq ?_
    refine RC.block ?_
    refine RC.seq ?_
    refine RC.region rfl ?_
    refine RL.q (Qt.mv rfl) ?_
    refine RL.q (Qt.nil rfl) ?_
    refine RL.q (Qt.fld rfl) ?_
    refine RL.q (Qt.ld rfl (by first | exact hS.at 0 rfl | exact hS.at 1 rfl | exact hS.at 2 rfl) (by first | exact item_id hc4 rfl hlt | exact item_lv hc4 rfl hlt | rfl)) ?_
    refine RL.q (Qt.mv rfl) ?_
    refine RL.q (Qt.ixS rfl rfl (by first | assumption | omega) (by first | assumption | omega)) ?_
    refine RL.q (Qt.fld rfl) ?_
    refine RL.q (Qt.ld rfl (by first | exact hS.at 0 rfl | exact hS.at 1 rfl | exact hS.at 2 rfl) (by first | exact item_id hc4 rfl hlt | exact item_lv hc4 rfl hlt | rfl)) ?_
    refine RL.q (Qt.mv rfl) ?_
    refine RL.q (Qt.eql rfl rfl) ?_
    refine RL.nil ?_
    refine RE.sqN ?_
    -- stops: cond
    have hd : l.drop k = l[k] :: l.drop (k + 1) := List.drop_eq_getElem_cons hlt
    rw [hd] at hrat
    refine RC.cond rfl (fun h2 => ?_) (fun h2 => ?_)
    · refine RC.seq ?_
      refine RC.region rfl ?_
      refine RL.q (Qt.mv rfl) ?_
      refine RL.q (Qt.as rfl) ?_
      refine RL.nil ?_
      refine RE.sqN ?_
      refine RC.ret ?_
      refine RE.bkR ?_
      refine RE.sqR ?_
      refine RE.lpR ?_
      refine RE.bkR ?_
      refine RE.sqR ?_
      -- stops: end ret
      have h3 : l[k].id = id := of_decide_eq_true h2
      refine RE.retB rfl ⟨?_, rfl⟩ (refQ_shut hl hS0)
      simp only [ratFrom, h3, if_true] at hrat
      rw [← hrat]; rfl
    · refine RC.skip ?_
      refine RE.bkN ?_
      refine RE.sqN ?_
      refine RC.region rfl ?_
      refine RL.q (Qt.mv rfl) ?_
      refine RL.q ((by first | exact Qt.addI rfl rfl (by dsimp only [inK]; omega) | exact Qt.add rfl rfl)) ?_
      refine RL.q (Qt.as rfl) ?_
      refine RL.nil ?_
      -- stops: next
      have h3 : ¬ l[k].id = id := of_decide_eq_false h2
      simp only [ratFrom, h3, if_false] at hrat
      apply RE.lpN (k + 1)
      case hI => exact ⟨rfl, rfl, by omega, hrat⟩
      case hs => (repeat (first | exact Sub.nil | refine Sub.cons rfl ?_))
      case hm =>
        show l.length - (k + 1) < l.length - k
        omega
  · refine RC.exit ?_
    refine RE.sqX ?_
    refine RE.lpX ?_
    refine RE.bkX ?_
    refine RE.sqN ?_
    refine RC.seq ?_
    refine RC.region rfl ?_
    refine RL.q (Qt.as rfl) ?_
    refine RL.nil ?_
    refine RE.sqN ?_
    refine RC.ret ?_
    -- stops: end ret
    have hge : k = l.length := by
      have : ¬ k < l.length := by simpa using h
      omega
    subst hge
    simp only [List.drop_length, ratFrom] at hrat
    exact RE.retB rfl ⟨by rw [← hrat]; rfl, rfl⟩ (refQ_shut hl hS)

/-- The place of the first one of the highest level, from place k on, with what was best so far. -/
def rtopFrom : List RItem → Int → Int → Int → Int
  | [], _, at', _ => at'
  | x :: xs, k, at', lv => if at' < 0 ∨ x.lv > lv then rtopFrom xs (k + 1) k x.lv else rtopFrom xs (k + 1) at' lv
def rtop (l : List RItem) : Int := rtopFrom l 0 (-1) 0

theorem rtopFrom_range (l : List RItem) : ∀ (k at' lv : Int), -1 ≤ at' → at' < k ∨ at' = -1 → 0 ≤ k → -1 ≤ rtopFrom l k at' lv ∧ (rtopFrom l k at' lv < k + l.length ∨ rtopFrom l k at' lv = -1) ∧ (0 ≤ at' ∨ l ≠ [] → 0 ≤ rtopFrom l k at' lv) := by
  induction l with
  | nil => intro k a lv h1 h2 h3; simp only [rtopFrom, List.length_nil]; exact ⟨h1, by omega, fun h => by rcases h with h | h; exact h; exact absurd rfl h⟩
  | cons x l ih =>
    intro k a lv h1 h2 h3
    simp only [rtopFrom, List.length_cons]
    split
    · obtain ⟨g1, g2, g3⟩ := ih (k + 1) k x.lv (by omega) (by omega) (by omega)
      exact ⟨g1, by omega, fun _ => g3 (.inl h3)⟩
    · rename_i hn
      obtain ⟨g1, g2, g3⟩ := ih (k + 1) a lv h1 (by omega) (by omega)
      exact ⟨g1, by omega, fun _ => g3 (.inl (by omega))⟩
theorem rtop_range (l : List RItem) : -1 ≤ rtop l ∧ rtop l < l.length ∧ (l ≠ [] → 0 ≤ rtop l) := by
  obtain ⟨h1, h2, h3⟩ := rtopFrom_range l 0 (-1) 0 (by omega) (by omega) (by omega)
  refine ⟨h1, ?_, fun h => h3 (.inr h)⟩
  unfold rtop
  omega
theorem ratFrom_range (l : List RItem) (id : Int) : ∀ (k : Int), 0 ≤ k → -1 ≤ ratFrom l id k ∧ (ratFrom l id k = -1 ∨ (k ≤ ratFrom l id k ∧ ratFrom l id k < k + l.length)) := by
  induction l with
  | nil => intro k h; simp [ratFrom]
  | cons x l ih =>
    intro k h
    simp only [ratFrom, List.length_cons]
    split
    · exact ⟨by omega, .inr (by omega)⟩
    · obtain ⟨h1, h2⟩ := ih (k + 1) (by omega)
      exact ⟨h1, by omega⟩
theorem rat_range (l : List RItem) (id : Int) : -1 ≤ rat l id ∧ rat l id < l.length := by
  obtain ⟨h1, h2⟩ := ratFrom_range l id 0 (by omega)
  unfold rat
  omega

set_option maxHeartbeats 1000000 in
theorem rqTop0 (p : Value) (n : Nat) (l : List RItem) : Ct Try.prog 43 #[p] [refQ p n l] (fun v ps => v = .int .i64 (rtop l) ∧ ps = [refQ p n l]) := by
  refine Ct.enter Try.func43 rfl (Nat.le_of_ble_eq_true rfl) ?_
  intro oo w R hS
  change RC _ _ _ _ _ _ [(0, _)] _
  obtain ⟨b, sp, cap, rfl, hl, hS⟩ := refQ_open hS
  refine RC.seq ?_
  refine RC.region rfl ?_
  refine RL.q (Qt.as rfl) ?_
  refine RL.nil ?_
  refine RE.sqN ?_
  refine RC.seq ?_
  refine RC.region rfl ?_
  refine RL.q (Qt.as rfl) ?_
  refine RL.nil ?_
  refine RE.sqN ?_
  refine RC.seq ?_
  refine RC.seq ?_
  refine RC.region rfl ?_
  refine RL.q (Qt.as rfl) ?_
  refine RL.nil ?_
  refine RE.sqN ?_
  refine RC.block ?_
  -- stops: loop
  refine RC.loop (γ := Nat × Int) (fun g E w' => E = [(4, .int .i64 g.1), (3, .int .i64 g.2), (0, .pointer (some ⟨b, 0, none⟩))] ∧ Sat oo w' [pt b (.cells #[.int .i64 n, .slice sp l.length cap] 68 (0, 0)), own (.slice sp l.length cap) 72 2 l.length (l.flatMap RItem.cells), R] ∧ g.1 ≤ l.length ∧ (g.2 = -1 ∨ (0 ≤ g.2 ∧ g.2 < g.1)) ∧ rtopFrom (l.drop g.1) g.1 g.2 (match l[g.2.toNat]? with | some x => x.lv | none => 0) = rtop l) (fun g => l.length - g.1) (0, -1) _ (by (repeat (first | exact Sub.nil | refine Sub.cons rfl ?_))) ⟨rfl, hS, by simp, .inl rfl, ?_⟩ ?_
  · cases l <;> simp [rtop, rtopFrom]
  clear hS
  rintro ⟨k, a⟩ E w ⟨rfl, hS, hk, ha, hrat⟩
  dsimp only at hk ha hrat
  refine RC.seq ?_
  refine RC.seq ?_
  refine RC.region rfl ?_
  refine RL.q (Qt.mv rfl) ?_
  refine RL.q (Qt.neqN rfl rfl) ?_
  refine RL.q (Qt.mv rfl) ?_
  refine RLG.start 7 true rfl ?_
  refine RLG.q rfl rfl rfl (fun _ => Qt.mv rfl) ?_
  refine RLG.q rfl rfl rfl (fun _ => Qt.mv rfl) ?_
  refine RLG.q rfl rfl rfl (fun _ => Qt.nil rfl) ?_
  refine RLG.q rfl rfl rfl (fun _ => Qt.fld rfl) ?_
  refine RLG.q rfl rfl rfl (fun hg => by (try simp only [Option.isSome_some] at hg); exact Qt.ld rfl (by first | exact hS.at 0 rfl | exact hS.at 1 rfl | exact hS.at 2 rfl) (by first  | rfl)) ?_
  refine RLG.q rfl rfl rfl (fun _ => Qt.lenS rfl) ?_
  refine RLG.q rfl rfl rfl (fun hg => by (try simp only [Option.isSome_some] at hg); exact Qt.lss rfl rfl) ?_
  refine RLG.and rfl rfl ?_
  refine RL.nil ?_
  refine RE.sqN ?_
  -- stops: cond
  refine RC.cond rfl (fun h => ?_) (fun h => ?_)
  · skip
    have hlt : k < l.length := by simpa using h
    have hS0 := hS
    obtain ⟨bs, cap', c, hv, hc1, hc2, hc3, hc4, hS⟩ := hS.ownPos 1 rfl (by omega)
    cases hv
    have hget : ∀ j : Nat, 0 ≤ a → c.toList[0 + a.toNat * 2 + 1]? = some (.int .u8 (match l[a.toNat]? with | some x => x.lv | none => 0)) := fun _ h => by
      have h1 : a.toNat < l.length := by omega
      have := item_lv hc4 rfl h1
      rw [show ((a.toNat : Nat) : Int) = a by omega] at this
      simpa [h1] using this
    refine RC.skip ?_
    refine RE.sqN ?_
    refine RC.seq ?_
    refine RC.block ?_
    refine RC.seq ?_
    refine RC.drawn 21 [0, 1, 2, 3, 4, 5, 6, 7, 8, 9, 10, 11, 12, 13, 14, 15, 16, 17, 18, 19, 20] (Same _) (by kernel_rfl) (by kernel_rfl) Same.drew (fun hh => ?_)
    replace hS := hS.drew
    refine RH.q hh (Calm.sq (Calm.bk (Calm.sq (Calm.lp (Calm.bk (Calm.sq Calm.body)))))) rfl (by kernel_rfl) (Qt.mv rfl) ?_
    refine RH.q hh (Calm.sq (Calm.bk (Calm.sq (Calm.lp (Calm.bk (Calm.sq Calm.body)))))) rfl (by kernel_rfl) (Qt.lss rfl rfl) ?_
    refine RH.q hh (Calm.sq (Calm.bk (Calm.sq (Calm.lp (Calm.bk (Calm.sq Calm.body)))))) rfl (by kernel_rfl) (Qt.mv rfl) ?_
    refine RHG.start 20 false rfl ?_
    refine RHG.q hh (Calm.sq (Calm.bk (Calm.sq (Calm.lp (Calm.bk (Calm.sq Calm.body)))))) rfl (by kernel_rfl) rfl rfl rfl (fun _ => Qt.mv rfl) ?_
    refine RHG.q hh (Calm.sq (Calm.bk (Calm.sq (Calm.lp (Calm.bk (Calm.sq Calm.body)))))) rfl (by kernel_rfl) rfl rfl rfl (fun _ => Qt.nil rfl) ?_
    refine RHG.q hh (Calm.sq (Calm.bk (Calm.sq (Calm.lp (Calm.bk (Calm.sq Calm.body)))))) rfl (by kernel_rfl) rfl rfl rfl (fun _ => Qt.fld rfl) ?_
    refine RHG.q hh (Calm.sq (Calm.bk (Calm.sq (Calm.lp (Calm.bk (Calm.sq Calm.body)))))) rfl (by kernel_rfl) rfl rfl rfl (fun hg => by (try simp only [decide_eq_false_iff_not] at hg); exact Qt.ld rfl (by first | exact hS.at 0 rfl | exact hS.at 1 rfl | exact hS.at 2 rfl) (by first | exact item_id hc4 rfl hlt | exact item_lv hc4 rfl hlt | exact hget 0 (by omega) | rfl)) ?_
    refine RHG.q hh (Calm.sq (Calm.bk (Calm.sq (Calm.lp (Calm.bk (Calm.sq Calm.body)))))) rfl (by kernel_rfl) rfl rfl rfl (fun _ => Qt.mv rfl) ?_
    refine RHG.q hh (Calm.sq (Calm.bk (Calm.sq (Calm.lp (Calm.bk (Calm.sq Calm.body)))))) rfl (by kernel_rfl) rfl rfl rfl (fun hg => by (try simp only [decide_eq_false_iff_not] at hg); exact Qt.ixS rfl rfl (by first | assumption | omega) (by first | assumption | omega)) ?_
    refine RHG.q hh (Calm.sq (Calm.bk (Calm.sq (Calm.lp (Calm.bk (Calm.sq Calm.body)))))) rfl (by kernel_rfl) rfl rfl rfl (fun _ => Qt.fld rfl) ?_
    refine RHG.q hh (Calm.sq (Calm.bk (Calm.sq (Calm.lp (Calm.bk (Calm.sq Calm.body)))))) rfl (by kernel_rfl) rfl rfl rfl (fun hg => by (try simp only [decide_eq_false_iff_not] at hg); exact Qt.ld rfl (by first | exact hS.at 0 rfl | exact hS.at 1 rfl | exact hS.at 2 rfl) (by first | exact item_id hc4 rfl hlt | exact item_lv hc4 rfl hlt | exact hget 0 (by omega) | rfl)) ?_
    refine RHG.q hh (Calm.sq (Calm.bk (Calm.sq (Calm.lp (Calm.bk (Calm.sq Calm.body)))))) rfl (by kernel_rfl) rfl rfl rfl (fun _ => Qt.mv rfl) ?_
    refine RHG.q hh (Calm.sq (Calm.bk (Calm.sq (Calm.lp (Calm.bk (Calm.sq Calm.body)))))) rfl (by kernel_rfl) rfl rfl rfl (fun _ => Qt.nil rfl) ?_
    refine RHG.q hh (Calm.sq (Calm.bk (Calm.sq (Calm.lp (Calm.bk (Calm.sq Calm.body)))))) rfl (by kernel_rfl) rfl rfl rfl (fun _ => Qt.fld rfl) ?_
    refine RHG.q hh (Calm.sq (Calm.bk (Calm.sq (Calm.lp (Calm.bk (Calm.sq Calm.body)))))) rfl (by kernel_rfl) rfl rfl rfl (fun hg => by (try simp only [decide_eq_false_iff_not] at hg); exact Qt.ld rfl (by first | exact hS.at 0 rfl | exact hS.at 1 rfl | exact hS.at 2 rfl) (by first | exact item_id hc4 rfl hlt | exact item_lv hc4 rfl hlt | exact hget 0 (by omega) | rfl)) ?_
    refine RHG.q hh (Calm.sq (Calm.bk (Calm.sq (Calm.lp (Calm.bk (Calm.sq Calm.body)))))) rfl (by kernel_rfl) rfl rfl rfl (fun _ => Qt.mv rfl) ?_
    refine RHG.q hh (Calm.sq (Calm.bk (Calm.sq (Calm.lp (Calm.bk (Calm.sq Calm.body)))))) rfl (by kernel_rfl) rfl rfl rfl (fun hg => by (try simp only [decide_eq_false_iff_not] at hg); exact Qt.ixS rfl rfl (by first | assumption | omega) (by first | assumption | omega)) ?_
    refine RHG.q hh (Calm.sq (Calm.bk (Calm.sq (Calm.lp (Calm.bk (Calm.sq Calm.body)))))) rfl (by kernel_rfl) rfl rfl rfl (fun _ => Qt.fld rfl) ?_
    refine RHG.q hh (Calm.sq (Calm.bk (Calm.sq (Calm.lp (Calm.bk (Calm.sq Calm.body)))))) rfl (by kernel_rfl) rfl rfl rfl (fun hg => by (try simp only [decide_eq_false_iff_not] at hg); exact Qt.ld rfl (by first | exact hS.at 0 rfl | exact hS.at 1 rfl | exact hS.at 2 rfl) (by first | exact item_id hc4 rfl hlt | exact item_lv hc4 rfl hlt | exact hget 0 (by omega) | rfl)) ?_
    refine RHG.q hh (Calm.sq (Calm.bk (Calm.sq (Calm.lp (Calm.bk (Calm.sq Calm.body)))))) rfl (by kernel_rfl) rfl rfl rfl (fun hg => by (try simp only [decide_eq_false_iff_not] at hg); exact Qt.gtr rfl rfl) ?_
    refine RHG.or hh (Calm.sq (Calm.bk (Calm.sq (Calm.lp (Calm.bk (Calm.sq Calm.body)))))) rfl (by kernel_rfl) rfl rfl ?_
    refine RH.done hh (by kernel_rfl) ?_
    refine RL.nil ?_
    refine RE.sqN ?_
    -- stops: cond
    have hd : l.drop k = l[k] :: l.drop (k + 1) := List.drop_eq_getElem_cons hlt
    rw [hd] at hrat
    simp only [rtopFrom] at hrat
    refine RC.cond rfl (fun h2 => ?_) (fun h2 => ?_)
    · refine RC.region rfl ?_
      refine RL.q (Qt.mv rfl) ?_
      refine RL.q (Qt.as rfl) ?_
      refine RL.nil ?_
      refine RE.bkN ?_
      refine RE.sqN ?_
      refine RC.region rfl ?_
      refine RL.q (Qt.mv rfl) ?_
      refine RL.q ((by first | exact Qt.addI rfl rfl (by dsimp only [inK]; omega) | exact Qt.add rfl rfl)) ?_
      refine RL.q (Qt.as rfl) ?_
      refine RL.nil ?_
      -- stops: next
      have h3 : a < 0 ∨ l[k].lv > (match l[a.toNat]? with | some x => x.lv | none => 0) := by simpa using h2
      rw [if_pos h3] at hrat
      apply RE.lpN ((k + 1, (k : Int)))
      case hI => exact ⟨rfl, hS0.drew, by dsimp only; omega, by dsimp only; omega, by simpa [hlt] using hrat⟩
      case hs => (repeat (first | exact Sub.nil | refine Sub.cons rfl ?_))
      case hm =>
        show l.length - (k + 1) < l.length - k
        omega
    · refine RC.skip ?_
      refine RE.bkN ?_
      refine RE.sqN ?_
      refine RC.region rfl ?_
      refine RL.q (Qt.mv rfl) ?_
      refine RL.q ((by first | exact Qt.addI rfl rfl (by dsimp only [inK]; omega) | exact Qt.add rfl rfl)) ?_
      refine RL.q (Qt.as rfl) ?_
      refine RL.nil ?_
      -- stops: next
      have h3 : ¬ (a < 0 ∨ l[k].lv > (match l[a.toNat]? with | some x => x.lv | none => 0)) := by simpa using h2
      rw [if_neg h3] at hrat
      apply RE.lpN ((k + 1, a))
      case hI => exact ⟨rfl, hS0.drew, by dsimp only; omega, by dsimp only; omega, hrat⟩
      case hs => (repeat (first | exact Sub.nil | refine Sub.cons rfl ?_))
      case hm =>
        show l.length - (k + 1) < l.length - k
        omega
  · refine RC.exit ?_
    refine RE.sqX ?_
    refine RE.lpX ?_
    refine RE.bkX ?_
    refine RE.sqN ?_
    refine RC.seq ?_
    refine RC.region rfl ?_
    refine RL.q (Qt.mv rfl) ?_
    refine RL.q (Qt.as rfl) ?_
    refine RL.nil ?_
    refine RE.sqN ?_
    refine RC.ret ?_
    -- stops: end ret
    have hge : k = l.length := by
      have : ¬ k < l.length := by simpa using h
      omega
    subst hge
    simp only [List.drop_length, rtopFrom] at hrat
    subst hrat
    exact RE.retB rfl ⟨rfl, rfl⟩ (refQ_shut hl hS)

set_option maxHeartbeats 1000000 in
theorem rqLen (p : Value) (n : Nat) (l : List RItem) : Ct Try.prog 35 #[p] [refQ p n l] (fun v ps => v = .int .i64 l.length ∧ ps = [refQ p n l]) := by
  refine Ct.enter Try.func35 rfl (Nat.le_of_ble_eq_true rfl) ?_
  intro oo w R hS
  change RC _ _ _ _ _ _ [(0, _)] _
  obtain ⟨b, sp, cap, rfl, hl, hS⟩ := refQ_open hS
  refine RC.seq ?_
  refine RC.region rfl ?_
  refine RL.q (Qt.as rfl) ?_
  refine RL.nil ?_
  refine RE.sqN ?_
  refine RC.seq ?_
  refine RC.seq ?_
  refine RC.region rfl ?_
  refine RL.q (Qt.mv rfl) ?_
  refine RL.q (Qt.eqlN rfl rfl) ?_
  refine RL.nil ?_
  refine RE.sqN ?_
  -- stops: cond
  refine RC.condF rfl (rfl) ?_
  refine RC.skip ?_
  refine RE.sqN ?_
  refine RC.seq ?_
  refine RC.region rfl ?_
  refine RL.q (Qt.mv rfl) ?_
  refine RL.q (Qt.nil rfl) ?_
  refine RL.q (Qt.fld rfl) ?_
  refine RL.q (Qt.ld rfl (by first | exact hS.at 0 rfl | exact hS.at 1 rfl | exact hS.at 2 rfl) (by first  | rfl)) ?_
  refine RL.q (Qt.lenS rfl) ?_
  refine RL.q (Qt.as rfl) ?_
  refine RL.nil ?_
  refine RE.sqN ?_
  refine RC.ret ?_
  -- stops: end ret
  exact RE.retB rfl ⟨rfl, rfl⟩ (refQ_shut hl hS)

def rget (l : List RItem) (i : Int) : RItem := (l[i.toNat]?).getD ⟨0, 0⟩
theorem rget_cell0 {c : Array Value} {l : List RItem} {m : Nat} (h : c.toList.take m = l.flatMap RItem.cells) (hm : m = l.length * 2) {a : Int} (h0 : 0 ≤ a) (h1 : a < l.length) : c.toList[0 + a.toNat * 2 + 0]? = some (.int .i64 (rget l a).id) := by
  have h2 : a.toNat < l.length := by omega
  have := item_id h hm h2
  rw [show ((a.toNat : Nat) : Int) = a by omega] at this
  simpa [rget, h2] using this
theorem rget_cell1 {c : Array Value} {l : List RItem} {m : Nat} (h : c.toList.take m = l.flatMap RItem.cells) (hm : m = l.length * 2) {a : Int} (h0 : 0 ≤ a) (h1 : a < l.length) : c.toList[0 + a.toNat * 2 + 1]? = some (.int .u8 (rget l a).lv) := by
  have h2 : a.toNat < l.length := by omega
  have := item_lv h hm h2
  rw [show ((a.toNat : Nat) : Int) = a by omega] at this
  simpa [rget, h2] using this

/-- What Top tells. -/
def rTop (l : List RItem) : Value := if rtop l < 0 then .tuple #[.int .u8 0, .int .i64 0, .bool false] else .tuple #[.int .u8 (rget l (rtop l)).lv, .int .i64 (rget l (rtop l)).id, .bool true]

set_option maxHeartbeats 1000000 in
theorem rqTop (p : Value) (n : Nat) (l : List RItem) : Ct Try.prog 32 #[p] [refQ p n l] (fun v ps => v = rTop l ∧ ps = [refQ p n l]) := by
  refine Ct.enter Try.func32 rfl (Nat.le_of_ble_eq_true rfl) ?_
  intro oo w R hS
  change RC _ _ _ _ _ _ [(0, _)] _
  refine RC.seq ?_
  refine RC.region rfl ?_
  refine RL.q (Qt.as rfl) ?_
  refine RL.q (Qt.as rfl) ?_
  refine RL.q (Qt.as rfl) ?_
  refine RL.nil ?_
  refine RE.sqN ?_
  refine RC.seq ?_
  refine RC.region rfl ?_
  refine RL.q (Qt.mv rfl) ?_
  -- stops: op call
  refine RL.e (Ef.call hS (rqTop0 p n l) rfl rfl Try.call43 [0] [1] (by decide) rfl rfl) ?_
  rintro v7 w ⟨ps, ⟨rfl, rfl⟩, hS⟩
  refine RL.q (Qt.as rfl) ?_
  refine RL.nil ?_
  refine RE.sqN ?_
  refine RC.seq ?_
  refine RC.seq ?_
  refine RC.region rfl ?_
  refine RL.q (Qt.mv rfl) ?_
  refine RL.q (Qt.lss rfl rfl) ?_
  refine RL.nil ?_
  refine RE.sqN ?_
  -- stops: cond
  have hr := rtop_range l
  refine RC.cond rfl (fun h => ?_) (fun h => ?_)
  · refine RC.seq ?_
    refine RC.region rfl ?_
    refine RL.q (Qt.as rfl) ?_
    refine RL.q (Qt.as rfl) ?_
    refine RL.q (Qt.as rfl) ?_
    refine RL.nil ?_
    refine RE.sqN ?_
    refine RC.ret ?_
    refine RE.sqR ?_
    -- stops: end ret
    have h : rtop l < 0 := of_decide_eq_true h
    exact RE.retB rfl ⟨by simp [rTop, h, oneOf], rfl⟩ hS
  · skip
    have h : ¬ rtop l < 0 := of_decide_eq_false h
    obtain ⟨b, sp, cap, rfl, hl, hS⟩ := refQ_open hS
    have hS0 := hS
    obtain ⟨bs, cap', c, hv, hc1, hc2, hc3, hc4, hS⟩ := hS.ownPos 1 rfl (by omega)
    cases hv
    refine RC.skip ?_
    refine RE.sqN ?_
    refine RC.seq ?_
    refine RC.drawn 19 [0, 1, 2, 3, 4, 5, 6, 7, 8, 9, 10, 11, 12, 13, 14, 15, 16, 17, 18] (Same _) (by kernel_rfl) (by kernel_rfl) Same.drew (fun hh => ?_)
    replace hS := hS.drew
    refine RH.q hh (Calm.sq Calm.body) rfl (by kernel_rfl) (Qt.mv rfl) ?_
    refine RH.q hh (Calm.sq Calm.body) rfl (by kernel_rfl) (Qt.nil rfl) ?_
    refine RH.q hh (Calm.sq Calm.body) rfl (by kernel_rfl) (Qt.fld rfl) ?_
    refine RH.q hh (Calm.sq Calm.body) rfl (by kernel_rfl) (Qt.ld rfl (by first | exact hS.at 0 rfl | exact hS.at 1 rfl | exact hS.at 2 rfl) (by first | exact rget_cell0 hc4 rfl (by omega) (by omega) | exact rget_cell1 hc4 rfl (by omega) (by omega) | rfl)) ?_
    refine RH.q hh (Calm.sq Calm.body) rfl (by kernel_rfl) (Qt.mv rfl) ?_
    refine RH.q hh (Calm.sq Calm.body) rfl (by kernel_rfl) (Qt.ixS rfl rfl (by first | assumption | omega) (by first | assumption | omega)) ?_
    refine RH.q hh (Calm.sq Calm.body) rfl (by kernel_rfl) (Qt.fld rfl) ?_
    refine RH.q hh (Calm.sq Calm.body) rfl (by kernel_rfl) (Qt.ld rfl (by first | exact hS.at 0 rfl | exact hS.at 1 rfl | exact hS.at 2 rfl) (by first | exact rget_cell0 hc4 rfl (by omega) (by omega) | exact rget_cell1 hc4 rfl (by omega) (by omega) | rfl)) ?_
    refine RH.q hh (Calm.sq Calm.body) rfl (by kernel_rfl) (Qt.mv rfl) ?_
    refine RH.q hh (Calm.sq Calm.body) rfl (by kernel_rfl) (Qt.nil rfl) ?_
    refine RH.q hh (Calm.sq Calm.body) rfl (by kernel_rfl) (Qt.fld rfl) ?_
    refine RH.q hh (Calm.sq Calm.body) rfl (by kernel_rfl) (Qt.ld rfl (by first | exact hS.at 0 rfl | exact hS.at 1 rfl | exact hS.at 2 rfl) (by first | exact rget_cell0 hc4 rfl (by omega) (by omega) | exact rget_cell1 hc4 rfl (by omega) (by omega) | rfl)) ?_
    refine RH.q hh (Calm.sq Calm.body) rfl (by kernel_rfl) (Qt.mv rfl) ?_
    refine RH.q hh (Calm.sq Calm.body) rfl (by kernel_rfl) (Qt.ixS rfl rfl (by first | assumption | omega) (by first | assumption | omega)) ?_
    refine RH.q hh (Calm.sq Calm.body) rfl (by kernel_rfl) (Qt.fld rfl) ?_
    refine RH.q hh (Calm.sq Calm.body) rfl (by kernel_rfl) (Qt.ld rfl (by first | exact hS.at 0 rfl | exact hS.at 1 rfl | exact hS.at 2 rfl) (by first | exact rget_cell0 hc4 rfl (by omega) (by omega) | exact rget_cell1 hc4 rfl (by omega) (by omega) | rfl)) ?_
    refine RH.q hh (Calm.sq Calm.body) rfl (by kernel_rfl) (Qt.as rfl) ?_
    refine RH.q hh (Calm.sq Calm.body) rfl (by kernel_rfl) (Qt.as rfl) ?_
    refine RH.q hh (Calm.sq Calm.body) rfl (by kernel_rfl) (Qt.as rfl) ?_
    refine RH.done hh (by kernel_rfl) ?_
    refine RL.nil ?_
    refine RE.sqN ?_
    refine RC.ret ?_
    -- stops: end ret
    exact RE.retB rfl ⟨by simp [rTop, h, oneOf], rfl⟩ (refQ_shut hl hS0.drew)

def rLevel (l : List RItem) (id : Int) : Value := if rat l id < 0 then .tuple #[.int .u8 0, .bool false] else .tuple #[.int .u8 (rget l (rat l id)).lv, .bool true]
set_option maxHeartbeats 1000000 in
theorem rqLevel (p : Value) (n : Nat) (l : List RItem) (id : Int) : Ct Try.prog 33 #[p, .int .i64 id] [refQ p n l] (fun v ps => v = rLevel l id ∧ ps = [refQ p n l]) := by
  refine Ct.enter Try.func33 rfl (Nat.le_of_ble_eq_true rfl) ?_
  intro oo w R hS
  change RC _ _ _ _ _ _ [(0, _), (1, _)] _
  refine RC.seq ?_
  refine RC.region rfl ?_
  refine RL.q (Qt.as rfl) ?_
  refine RL.q (Qt.as rfl) ?_
  refine RL.nil ?_
  refine RE.sqN ?_
  refine RC.seq ?_
  refine RC.region rfl ?_
  refine RL.q (Qt.mv rfl) ?_
  refine RL.q (Qt.mv rfl) ?_
  -- stops: op call
  refine RL.e (Ef.call hS (rqAt p n l id) rfl rfl Try.call44 [0] [1] (by decide) rfl rfl) ?_
  rintro v9 w ⟨ps, ⟨rfl, rfl⟩, hS⟩
  refine RL.q (Qt.as rfl) ?_
  refine RL.nil ?_
  refine RE.sqN ?_
  refine RC.seq ?_
  refine RC.seq ?_
  refine RC.region rfl ?_
  refine RL.q (Qt.mv rfl) ?_
  refine RL.q (Qt.lss rfl rfl) ?_
  refine RL.nil ?_
  refine RE.sqN ?_
  -- stops: cond
  have hr := rat_range l id
  refine RC.cond rfl (fun h => ?_) (fun h => ?_)
  · refine RC.seq ?_
    refine RC.region rfl ?_
    refine RL.q (Qt.as rfl) ?_
    refine RL.q (Qt.as rfl) ?_
    refine RL.nil ?_
    refine RE.sqN ?_
    refine RC.ret ?_
    refine RE.sqR ?_
    -- stops: end ret
    have h : rat l id < 0 := of_decide_eq_true h
    exact RE.retB rfl ⟨by simp [rLevel, h, oneOf], rfl⟩ hS
  · skip
    have h : ¬ rat l id < 0 := of_decide_eq_false h
    obtain ⟨b, sp, cap, rfl, hl, hS⟩ := refQ_open hS
    have hS0 := hS
    obtain ⟨bs, cap', c, hv, hc1, hc2, hc3, hc4, hS⟩ := hS.ownPos 1 rfl (by omega)
    cases hv
    refine RC.skip ?_
    refine RE.sqN ?_
    refine RC.seq ?_
    refine RC.region rfl ?_
    refine RL.q (Qt.mv rfl) ?_
    refine RL.q (Qt.nil rfl) ?_
    refine RL.q (Qt.fld rfl) ?_
    refine RL.q (Qt.ld rfl (by first | exact hS.at 0 rfl | exact hS.at 1 rfl | exact hS.at 2 rfl) (by first | exact rget_cell0 hc4 rfl (by omega) (by omega) | exact rget_cell1 hc4 rfl (by omega) (by omega) | rfl)) ?_
    refine RL.q (Qt.mv rfl) ?_
    refine RL.q (Qt.ixS rfl rfl (by first | assumption | omega) (by first | assumption | omega)) ?_
    refine RL.q (Qt.fld rfl) ?_
    refine RL.q (Qt.ld rfl (by first | exact hS.at 0 rfl | exact hS.at 1 rfl | exact hS.at 2 rfl) (by first | exact rget_cell0 hc4 rfl (by omega) (by omega) | exact rget_cell1 hc4 rfl (by omega) (by omega) | rfl)) ?_
    refine RL.q (Qt.as rfl) ?_
    refine RL.q (Qt.as rfl) ?_
    refine RL.nil ?_
    refine RE.sqN ?_
    refine RC.ret ?_
    -- stops: end ret
    exact RE.retB rfl ⟨by simp [rLevel, h, oneOf], rfl⟩ (refQ_shut hl hS0)

set_option maxHeartbeats 1000000 in
theorem rqNew (n : Int) (h0 : 1 ≤ n) (h1 : n ≤ 1024) : Ct Try.prog 28 #[.int .i64 n] [] (fun v ps => ps = [refQ v n.toNat []]) := by
  refine Ct.enter Try.func28 rfl (Nat.le_of_ble_eq_true rfl) ?_
  intro oo w R hS
  change RC _ _ _ _ _ _ [(0, _)] _
  refine RC.seq ?_
  refine RC.region rfl ?_
  refine RL.q (Qt.as rfl) ?_
  refine RL.nil ?_
  refine RE.sqN ?_
  refine RC.seq ?_
  refine RC.seq ?_
  refine RC.region rfl ?_
  refine RL.q (Qt.mv rfl) ?_
  refine RL.q (Qt.lss rfl rfl) ?_
  refine RL.q (Qt.mv rfl) ?_
  refine RLG.start 5 false rfl ?_
  refine RLG.q rfl rfl rfl (fun _ => Qt.mv rfl) ?_
  refine RLG.q rfl rfl rfl (fun hg => by (try simp only [decide_eq_false_iff_not] at hg); exact Qt.gtr rfl rfl) ?_
  refine RLG.or rfl rfl ?_
  refine RL.nil ?_
  refine RE.sqN ?_
  -- stops: cond
  refine RC.condF rfl (by simp; omega) ?_
  refine RC.skip ?_
  refine RE.sqN ?_
  refine RC.seq ?_
  refine RC.region rfl ?_
  refine RL.q (Qt.mv rfl) ?_
  refine RL.q (Qt.bldV [.tmp 9, .const (Go.Value.slice none 0 0)] rfl rfl (by kernel_rfl)) ?_
  refine RL.e (Ef.box hS rfl) ?_
  rintro _ w ⟨b11, rfl, hS⟩
  try simp (disch := omega) only [cells_agg'] at hS
  refine RL.q (Qt.as rfl) ?_
  refine RL.nil ?_
  refine RE.sqN ?_
  refine RC.ret ?_
  -- stops: end ret
  refine RE.retB rfl (ps := [refQ _ n.toNat []]) rfl ?_
  refine refQ_shut (s := .slice none 0 0) (by simp) ?_
  have := hS.nilOwn (T := 72) (sz := 2)
  simpa [Int.toNat_of_nonneg (show 0 ≤ n by omega)] using this.pick [1, 0, 2] (by decide) rfl

theorem items_plain (l : List RItem) : (l.flatMap RItem.cells).all Value.plain = true := by
  rw [List.all_flatMap, List.all_eq_true]
  intro x _
  rfl

set_option maxHeartbeats 1000000 in
theorem rqOut (p : Value) (n : Nat) (l : List RItem) (a : Int) (h0 : 0 ≤ a) (h1 : a < l.length) : Ct Try.prog 45 #[p, .int .i64 a] [refQ p n l] (fun v ps => v = .tuple #[] ∧ ps = [refQ p n (l.eraseIdx a.toNat)]) := by
  refine Ct.enter Try.func45 rfl (Nat.le_of_ble_eq_true rfl) ?_
  intro oo w R hS
  change RC _ _ _ _ _ _ [(0, _), (1, _)] _
  obtain ⟨b, sp, cap, rfl, hl, hS⟩ := refQ_open hS
  obtain ⟨bs, cap', c, hv, hc1, hc2, hc3, hc4, hS⟩ := hS.ownPos 1 rfl (by omega)
  cases hv
  have hS := hS.nilOwn (T := 72) (sz := 2)
  simp only [List.set_cons_zero, List.set_cons_succ] at hS
  refine RC.seq ?_
  refine RC.region rfl ?_
  refine RL.q (Qt.as rfl) ?_
  refine RL.nil ?_
  refine RE.sqN ?_
  refine RC.seq ?_
  -- stops: drawn
  refine RC.drawn 15 [0, 1, 2, 3, 4, 5, 6, 8, 9, 10, 11, 12, 13, 14, 7] (fun w' => w'.heap[b]? = some (.cells #[.int .i64 n, .slice (some ⟨bs, 0, none⟩) l.length cap] 68 (0, 0))) (by kernel_rfl) (by kernel_rfl) (hS.drew.get 1 rfl) (fun hh => ?_)
  replace hS := hS.drew
  refine RH.q hh (Calm.sq Calm.body) rfl (by kernel_rfl) (Qt.mv rfl) ?_
  refine RH.q hh (Calm.sq Calm.body) rfl (by kernel_rfl) (Qt.mv rfl) ?_
  refine RH.q hh (Calm.sq Calm.body) rfl (by kernel_rfl) (Qt.nil rfl) ?_
  refine RH.q hh (Calm.sq Calm.body) rfl (by kernel_rfl) (Qt.fld rfl) ?_
  refine RH.q hh (Calm.sq Calm.body) rfl (by kernel_rfl) (Qt.ld rfl (fun _ h => h) (by first  | rfl)) ?_
  refine RH.q hh (Calm.sq Calm.body) rfl (by kernel_rfl) (Qt.mv rfl) ?_
  refine RH.q hh (Calm.sq Calm.body) rfl (by kernel_rfl) (Qt.slHi rfl rfl (by first | assumption | omega) (by first | assumption | omega)) ?_
  refine RH.q hh (Calm.sq Calm.body) rfl (by kernel_rfl) (Qt.mv rfl) ?_
  refine RH.q hh (Calm.sq Calm.body) rfl (by kernel_rfl) (Qt.nil rfl) ?_
  refine RH.q hh (Calm.sq Calm.body) rfl (by kernel_rfl) (Qt.fld rfl) ?_
  refine RH.q hh (Calm.sq Calm.body) rfl (by kernel_rfl) (Qt.ld rfl (fun _ h => h) (by first  | rfl)) ?_
  refine RH.q hh (Calm.sq Calm.body) rfl (by kernel_rfl) (Qt.mv rfl) ?_
  refine RH.q hh (Calm.sq Calm.body) rfl (by kernel_rfl) ((by first | exact Qt.addI rfl rfl (by dsimp only [inK]; omega) | exact Qt.add rfl rfl)) ?_
  refine RH.q hh (Calm.sq Calm.body) rfl (by kernel_rfl) (Qt.slLo rfl rfl (by first | assumption | omega) (by first | assumption | omega)) ?_
  first | refine RH.e hh rfl (by kernel_rfl) (Ef.app (k := 0) hS rfl rfl rfl (by first | exact Src.rowsTake (fun _ => rfl) (hS.get 2 rfl) hc1 hc2 hc4 (by omega) | exact Src.rowsDrop (k := (a + 1).toNat) (fun _ => rfl) (hS.get 2 rfl) hc1 hc2 hc4 (by omega) rfl (by split <;> omega)) (by first | assumption | omega) (by first | exact items_plain _)) ?_
  intro s12 w hS
  simp only [List.set_cons_zero] at hS
  first | (obtain ⟨sp12, cp12, rfl⟩ := hS.ownForm 0 rfl)
  refine ⟨hS.get 1 rfl, ?_⟩
  refine RH.done hh (by kernel_rfl) ?_
  first | refine RL.e (Ef.app (k := 0) hS rfl rfl rfl (by first | exact Src.rowsTake (fun _ => rfl) (hS.get 2 rfl) hc1 hc2 hc4 (by omega) | exact Src.rowsDrop (k := (a + 1).toNat) (fun _ => rfl) (hS.get 2 rfl) hc1 hc2 hc4 (by omega) rfl (by split <;> omega)) (by first | assumption | omega) (by first | exact items_plain _)) ?_
  intro s20 w hS
  simp only [List.set_cons_zero] at hS
  first | (obtain ⟨sp20, cp20, rfl⟩ := hS.ownForm 0 rfl)
  refine RL.q (Qt.as rfl) ?_
  refine RL.nil ?_
  refine RE.sqN ?_
  refine RC.region rfl ?_
  refine RL.q (Qt.mv rfl) ?_
  refine RL.q (Qt.mv rfl) ?_
  refine RL.q (Qt.nil rfl) ?_
  refine RL.q (Qt.fld rfl) ?_
  first | refine RL.e0 (Ef.st hS 0 rfl rfl rfl (by rfl) (by rfl) (by first | exact Nat.le_of_ble_eq_true rfl | omega | (simp only [Array.size_map]; omega))) ?_ | refine RL.e0 (Ef.st hS 1 rfl rfl rfl (by rfl) (by rfl) (by first | exact Nat.le_of_ble_eq_true rfl | omega | (simp only [Array.size_map]; omega))) ?_ | refine RL.e0 (Ef.st hS 2 rfl rfl rfl (by rfl) (by rfl) (by first | exact Nat.le_of_ble_eq_true rfl | omega | (simp only [Array.size_map]; omega))) ?_ | refine RL.e0 (Ef.st hS 3 rfl rfl rfl (by rfl) (by rfl) (by first | exact Nat.le_of_ble_eq_true rfl | omega | (simp only [Array.size_map]; omega))) ?_
  intro _ w hS
  simp (disch := omega) only [List.set_cons_zero, List.set_cons_succ, cells_slice', Nat.zero_add, wr, List.setIfInBounds_toArray] at hS
  refine RL.nil ?_
  -- stops: end normal
  have hk : a.toNat < l.length := by omega
  have e1 : a.toNat + (l.length - (a + 1).toNat) = (l.eraseIdx a.toNat).length := by rw [List.length_eraseIdx, if_pos hk]; omega
  have e2 : [] ++ (l.take a.toNat).flatMap RItem.cells ++ (l.drop (a + 1).toNat).flatMap RItem.cells = (l.eraseIdx a.toNat).flatMap RItem.cells := by
    rw [List.eraseIdx_eq_take_drop_succ, List.flatMap_append, show (a + 1).toNat = a.toNat + 1 by omega]; simp
  rw [e1, e2] at hS
  refine RE.endB rfl ⟨rfl, rfl⟩ (refQ_shut (by rw [← e1]; omega) (hS.pick [1, 0, 3] (by decide) rfl))

def rPushErr (l : List RItem) (n : Nat) (id : Int) : Int := if id < 0 ∨ id ≥ n then 2 else if rat l id ≥ 0 then 5 else 0
def rPush (l : List RItem) (n : Nat) (lv id : Int) : List RItem := if rPushErr l n id = 0 then l ++ [⟨id, lv⟩] else l
set_option maxHeartbeats 1000000 in
theorem rqPush (p : Value) (n : Nat) (l : List RItem) (lv id : Int) (hlen : l.length < 1000000) : Ct Try.prog 38 #[p, .int .u8 lv, .int .i64 id] [refQ p n l] (fun v ps => v = .int .i64 (rPushErr l n id) ∧ ps = [refQ p n (rPush l n lv id)]) := by
  refine Ct.enter Try.func38 rfl (Nat.le_of_ble_eq_true rfl) ?_
  intro oo w R hS
  change RC _ _ _ _ _ _ [(0, _), (1, _), (2, _)] _
  obtain ⟨b, sp, cap, rfl, hl, hS⟩ := refQ_open hS
  refine RC.seq ?_
  refine RC.region rfl ?_
  refine RL.q (Qt.as rfl) ?_
  refine RL.nil ?_
  refine RE.sqN ?_
  refine RC.seq ?_
  refine RC.block ?_
  refine RC.seq ?_
  refine RC.region rfl ?_
  refine RL.q (Qt.mv rfl) ?_
  refine RL.q (Qt.eqlN rfl rfl) ?_
  refine RL.q (Qt.as rfl) ?_
  refine RL.nil ?_
  refine RE.sqN ?_
  -- stops: cond
  refine RC.condF rfl (rfl) ?_
  refine RC.seq ?_
  refine RC.region rfl ?_
  refine RL.q (Qt.mv rfl) ?_
  refine RL.q (Qt.lss rfl rfl) ?_
  refine RL.q (Qt.mv rfl) ?_
  refine RLG.start 13 false rfl ?_
  refine RLG.q rfl rfl rfl (fun _ => Qt.mv rfl) ?_
  refine RLG.q rfl rfl rfl (fun _ => Qt.mv rfl) ?_
  refine RLG.q rfl rfl rfl (fun _ => Qt.nil rfl) ?_
  refine RLG.q rfl rfl rfl (fun _ => Qt.fld rfl) ?_
  refine RLG.q rfl rfl rfl (fun hg => by (try simp only [decide_eq_false_iff_not] at hg); exact Qt.ld rfl (by first | exact hS.at 0 rfl | exact hS.at 1 rfl | exact hS.at 2 rfl) (by first  | rfl)) ?_
  refine RLG.q rfl rfl rfl (fun hg => by (try simp only [decide_eq_false_iff_not] at hg); exact Qt.geq rfl rfl) ?_
  refine RLG.or rfl rfl ?_
  refine RL.q (Qt.as rfl) ?_
  refine RL.nil ?_
  refine RE.sqN ?_
  -- stops: cond
  refine RC.cond rfl (fun h => ?_) (fun h => ?_)
  · refine RC.seq ?_
    refine RC.region rfl ?_
    refine RL.q (Qt.as rfl) ?_
    refine RL.nil ?_
    refine RE.sqN ?_
    refine RC.ret ?_
    refine RE.bkR ?_
    refine RE.sqR ?_
    -- stops: end ret
    have h : id < 0 ∨ id ≥ n := by simpa using h
    have e : rPushErr l n id = 2 := if_pos h
    exact RE.retB rfl ⟨by rw [e]; rfl, by rw [show rPush l n lv id = l by simp [rPush, e]]⟩ (refQ_shut hl hS)
  · skip
    have h : ¬ (id < 0 ∨ id ≥ n) := by simpa using h
    have hS := refQ_shut hl hS
    refine RC.seq ?_
    refine RC.region rfl ?_
    refine RL.q (Qt.mv rfl) ?_
    refine RL.q (Qt.mv rfl) ?_
    -- stops: op call
    refine RL.e (Ef.call hS (rqAt _ n l id) rfl rfl Try.call44 [0] [1] (by decide) rfl rfl) ?_
    rintro v24 w ⟨ps, ⟨rfl, rfl⟩, hS⟩
    refine RL.q (Qt.geq rfl rfl) ?_
    refine RL.q (Qt.as rfl) ?_
    refine RL.nil ?_
    refine RE.sqN ?_
    -- stops: cond
    refine RC.cond rfl (fun h2 => ?_) (fun h2 => ?_)
    · refine RC.seq ?_
      refine RC.region rfl ?_
      refine RL.q (Qt.as rfl) ?_
      refine RL.nil ?_
      refine RE.sqN ?_
      refine RC.ret ?_
      refine RE.bkR ?_
      refine RE.sqR ?_
      -- stops: end ret
      have h2 : rat l id ≥ 0 := of_decide_eq_true h2
      have e : rPushErr l n id = 5 := by rw [rPushErr, if_neg h, if_pos h2]
      exact RE.retB rfl ⟨by rw [e]; rfl, by rw [show rPush l n lv id = l by simp [rPush, e]]⟩ hS
    · skip
      have h2 : ¬ rat l id ≥ 0 := of_decide_eq_false h2
      have e : rPushErr l n id = 0 := by rw [rPushErr, if_neg h, if_neg h2]
      obtain ⟨b, sp, cap, hp, hl, hS⟩ := refQ_open hS
      cases hp
      refine RC.skip ?_
      refine RE.bkN ?_
      refine RE.sqN ?_
      refine RC.seq ?_
      refine RC.region rfl ?_
      refine RL.q (Qt.mv rfl) ?_
      refine RL.q (Qt.mv rfl) ?_
      refine RL.q (Qt.nil rfl) ?_
      refine RL.q (Qt.fld rfl) ?_
      refine RL.q (Qt.ld rfl (by first | exact hS.at 0 rfl | exact hS.at 1 rfl | exact hS.at 2 rfl) (by first  | rfl)) ?_
      refine RL.q (Qt.mv rfl) ?_
      refine RL.q (Qt.mv rfl) ?_
      refine RL.q (Qt.bldV [.tmp 31, .tmp 32] rfl rfl (by kernel_rfl)) ?_
      refine RL.e (Ef.bsl1 hS rfl) ?_
      rintro _ w ⟨b34, rfl, hS⟩
      try simp (disch := omega) only [cells_agg'] at hS
      first | refine RL.e (Ef.app (k := 2) hS rfl rfl rfl (Src.pt (hS.get 0 rfl) (by first | exact Nat.le_of_ble_eq_true rfl | omega | (simp only [Array.size_map]; omega))) (by first | assumption | omega) (by first | rfl | simp)) ?_ | refine RL.e (Ef.app (k := 2) hS rfl rfl rfl (Src.pt (hS.get 1 rfl) (by first | exact Nat.le_of_ble_eq_true rfl | omega | (simp only [Array.size_map]; omega))) (by first | assumption | omega) (by first | rfl | simp)) ?_ | refine RL.e (Ef.app (k := 2) hS rfl rfl rfl (Src.pt (hS.get 2 rfl) (by first | exact Nat.le_of_ble_eq_true rfl | omega | (simp only [Array.size_map]; omega))) (by first | assumption | omega) (by first | rfl | simp)) ?_ | refine RL.e (Ef.app (k := 2) hS rfl rfl rfl (Src.pt (hS.get 3 rfl) (by first | exact Nat.le_of_ble_eq_true rfl | omega | (simp only [Array.size_map]; omega))) (by first | assumption | omega) (by first | rfl | simp)) ?_ | refine RL.e (Ef.app (k := 2) hS rfl rfl rfl (Src.own hS 0 rfl) (by first | assumption | omega) (by first | rfl | simp)) ?_ | refine RL.e (Ef.app (k := 2) hS rfl rfl rfl (Src.own hS 1 rfl) (by first | assumption | omega) (by first | rfl | simp)) ?_ | refine RL.e (Ef.app (k := 2) hS rfl rfl rfl (Src.own hS 2 rfl) (by first | assumption | omega) (by first | rfl | simp)) ?_ | refine RL.e (Ef.app (k := 2) hS rfl rfl rfl (Src.own hS 3 rfl) (by first | assumption | omega) (by first | rfl | simp)) ?_
      intro s35 w hS
      simp only [List.set_cons_zero, List.set_cons_succ, List.drop_zero] at hS
      first | (obtain ⟨sp35, cp35, rfl⟩ := hS.ownForm 2 rfl)
      refine RL.q (Qt.nil rfl) ?_
      refine RL.q (Qt.fld rfl) ?_
      first | refine RL.e0 (Ef.st hS 0 rfl rfl rfl (by rfl) (by rfl) (by first | exact Nat.le_of_ble_eq_true rfl | omega | (simp only [Array.size_map]; omega))) ?_ | refine RL.e0 (Ef.st hS 1 rfl rfl rfl (by rfl) (by rfl) (by first | exact Nat.le_of_ble_eq_true rfl | omega | (simp only [Array.size_map]; omega))) ?_ | refine RL.e0 (Ef.st hS 2 rfl rfl rfl (by rfl) (by rfl) (by first | exact Nat.le_of_ble_eq_true rfl | omega | (simp only [Array.size_map]; omega))) ?_ | refine RL.e0 (Ef.st hS 3 rfl rfl rfl (by rfl) (by rfl) (by first | exact Nat.le_of_ble_eq_true rfl | omega | (simp only [Array.size_map]; omega))) ?_
      intro _ w hS
      simp (disch := omega) only [List.set_cons_zero, List.set_cons_succ, cells_slice', Nat.zero_add, wr, List.setIfInBounds_toArray] at hS
      refine RL.nil ?_
      refine RE.sqN ?_
      refine RC.seq ?_
      refine RC.region rfl ?_
      refine RL.q (Qt.as rfl) ?_
      refine RL.nil ?_
      refine RE.sqN ?_
      refine RC.ret ?_
      -- stops: end ret
      refine RE.retB rfl ⟨by rw [e]; rfl, by rw [show rPush l n lv id = l ++ [⟨id, lv⟩] by simp [rPush, e]]⟩ (refQ_shut (l := l ++ [⟨id, lv⟩]) (s := .slice sp35 (l.length + 1) cp35) (by rw [List.length_append, List.length_singleton]; omega) ?_)
      have := hS.pick [1, 2, 3] (by decide) rfl
      simpa [RItem.cells] using this

def rRemErr (l : List RItem) (n : Nat) (id : Int) : Int := if id < 0 ∨ id ≥ n then 2 else if rat l id < 0 then 6 else 0
def rRem (l : List RItem) (n : Nat) (id : Int) : List RItem := if rRemErr l n id = 0 then l.eraseIdx (rat l id).toNat else l
set_option maxHeartbeats 1000000 in
theorem rqRemove (p : Value) (n : Nat) (l : List RItem) (id : Int) : Ct Try.prog 40 #[p, .int .i64 id] [refQ p n l] (fun v ps => v = .int .i64 (rRemErr l n id) ∧ ps = [refQ p n (rRem l n id)]) := by
  refine Ct.enter Try.func40 rfl (Nat.le_of_ble_eq_true rfl) ?_
  intro oo w R hS
  change RC _ _ _ _ _ _ [(0, _), (1, _)] _
  obtain ⟨b, sp, cap, rfl, hl, hS⟩ := refQ_open hS
  refine RC.seq ?_
  refine RC.region rfl ?_
  refine RL.q (Qt.as rfl) ?_
  refine RL.nil ?_
  refine RE.sqN ?_
  refine RC.seq ?_
  refine RC.block ?_
  refine RC.seq ?_
  refine RC.region rfl ?_
  refine RL.q (Qt.mv rfl) ?_
  refine RL.q (Qt.eqlN rfl rfl) ?_
  refine RL.q (Qt.as rfl) ?_
  refine RL.nil ?_
  refine RE.sqN ?_
  -- stops: cond
  refine RC.condF rfl (rfl) ?_
  refine RC.seq ?_
  refine RC.region rfl ?_
  refine RL.q (Qt.mv rfl) ?_
  refine RL.q (Qt.lss rfl rfl) ?_
  refine RL.q (Qt.mv rfl) ?_
  refine RLG.start 11 false rfl ?_
  refine RLG.q rfl rfl rfl (fun _ => Qt.mv rfl) ?_
  refine RLG.q rfl rfl rfl (fun _ => Qt.mv rfl) ?_
  refine RLG.q rfl rfl rfl (fun _ => Qt.nil rfl) ?_
  refine RLG.q rfl rfl rfl (fun _ => Qt.fld rfl) ?_
  refine RLG.q rfl rfl rfl (fun hg => by (try simp only [decide_eq_false_iff_not] at hg); exact Qt.ld rfl (by first | exact hS.at 0 rfl | exact hS.at 1 rfl | exact hS.at 2 rfl) (by first  | rfl)) ?_
  refine RLG.q rfl rfl rfl (fun hg => by (try simp only [decide_eq_false_iff_not] at hg); exact Qt.geq rfl rfl) ?_
  refine RLG.or rfl rfl ?_
  refine RL.q (Qt.as rfl) ?_
  refine RL.nil ?_
  refine RE.sqN ?_
  -- stops: cond
  have hr := rat_range l id
  refine RC.cond rfl (fun h => ?_) (fun h => ?_)
  · refine RC.seq ?_
    refine RC.region rfl ?_
    refine RL.q (Qt.as rfl) ?_
    refine RL.nil ?_
    refine RE.sqN ?_
    refine RC.ret ?_
    refine RE.bkR ?_
    refine RE.sqR ?_
    -- stops: end ret
    have h : id < 0 ∨ id ≥ n := by simpa using h
    have e : rRemErr l n id = 2 := if_pos h
    exact RE.retB rfl ⟨by rw [e]; rfl, by rw [show rRem l n id = l by simp [rRem, e]]⟩ (refQ_shut hl hS)
  · skip
    have h : ¬ (id < 0 ∨ id ≥ n) := by simpa using h
    have hS := refQ_shut hl hS
    refine RC.seq ?_
    refine RC.region rfl ?_
    refine RL.q (Qt.mv rfl) ?_
    refine RL.q (Qt.mv rfl) ?_
    -- stops: op call
    refine RL.e (Ef.call hS (rqAt _ n l id) rfl rfl Try.call44 [0] [1] (by decide) rfl rfl) ?_
    rintro v22 w ⟨ps, ⟨rfl, rfl⟩, hS⟩
    refine RL.q (Qt.lss rfl rfl) ?_
    refine RL.q (Qt.as rfl) ?_
    refine RL.nil ?_
    refine RE.sqN ?_
    -- stops: cond
    refine RC.cond rfl (fun h2 => ?_) (fun h2 => ?_)
    · refine RC.seq ?_
      refine RC.region rfl ?_
      refine RL.q (Qt.as rfl) ?_
      refine RL.nil ?_
      refine RE.sqN ?_
      refine RC.ret ?_
      refine RE.bkR ?_
      refine RE.sqR ?_
      -- stops: end ret
      have h2 : rat l id < 0 := of_decide_eq_true h2
      have e : rRemErr l n id = 6 := by rw [rRemErr, if_neg h, if_pos h2]
      exact RE.retB rfl ⟨by rw [e]; rfl, by rw [show rRem l n id = l by simp [rRem, e]]⟩ hS
    · skip
      have h2 : ¬ rat l id < 0 := of_decide_eq_false h2
      have e : rRemErr l n id = 0 := by rw [rRemErr, if_neg h, if_neg h2]
      refine RC.skip ?_
      refine RE.bkN ?_
      refine RE.sqN ?_
      refine RC.seq ?_
      refine RC.region rfl ?_
      refine RL.q (Qt.mv rfl) ?_
      refine RL.q (Qt.mv rfl) ?_
      refine RL.q (Qt.mv rfl) ?_
      -- stops: op call
      refine RL.e (Ef.call hS (rqAt _ n l id) rfl rfl Try.call44 [0] [1] (by decide) rfl rfl) ?_
      rintro v27 w ⟨ps, ⟨rfl, rfl⟩, hS⟩
      -- stops: op call
      refine RL.e (Ef.call hS (rqOut _ n l (rat l id) (by omega) (by omega)) rfl rfl Try.call45 [0] [1] (by decide) rfl rfl) ?_
      rintro v28 w ⟨ps, ⟨rfl, rfl⟩, hS⟩
      refine RL.nil ?_
      refine RE.sqN ?_
      refine RC.seq ?_
      refine RC.region rfl ?_
      refine RL.q (Qt.as rfl) ?_
      refine RL.nil ?_
      refine RE.sqN ?_
      refine RC.ret ?_
      -- stops: end ret
      exact RE.retB rfl ⟨by rw [e]; rfl, by rw [show rRem l n id = l.eraseIdx (rat l id).toNat by simp [rRem, e]]⟩ hS

def rPop (l : List RItem) : List RItem := if rtop l < 0 then l else l.eraseIdx (rtop l).toNat
set_option maxHeartbeats 1000000 in
theorem rqPop (p : Value) (n : Nat) (l : List RItem) : Ct Try.prog 39 #[p] [refQ p n l] (fun v ps => v = rTop l ∧ ps = [refQ p n (rPop l)]) := by
  have hr := rtop_range l
  by_cases h : rtop l < 0
  · have e : rTop l = .tuple #[.int .u8 0, .int .i64 0, .bool false] := if_pos h
    have ht := rqTop p n l
    rw [e] at ht ⊢
    rw [rPop, if_pos h]
    refine Ct.enter Try.func39 rfl (Nat.le_of_ble_eq_true rfl) ?_
    intro oo w R hS
    change RC _ _ _ _ _ _ [(0, _)] _
    refine RC.seq ?_
    refine RC.region rfl ?_
    refine RL.q (Qt.as rfl) ?_
    refine RL.q (Qt.as rfl) ?_
    refine RL.q (Qt.as rfl) ?_
    refine RL.nil ?_
    refine RE.sqN ?_
    refine RC.seq ?_
    refine RC.region rfl ?_
    refine RL.q (Qt.mv rfl) ?_
    -- stops: op call
    refine RL.e (Ef.call hS (ht) rfl rfl Try.call32 [0] [1] (by decide) rfl rfl) ?_
    rintro v10 w ⟨ps, ⟨rfl, rfl⟩, hS⟩
    refine RL.q (Qt.mv rfl) ?_
    refine RL.q (Qt.ext rfl rfl) ?_
    refine RL.q (Qt.ext rfl rfl) ?_
    refine RL.q (Qt.ext rfl rfl) ?_
    refine RL.q (Qt.as rfl) ?_
    refine RL.q (Qt.as rfl) ?_
    refine RL.q (Qt.as rfl) ?_
    refine RL.nil ?_
    refine RE.sqN ?_
    refine RC.seq ?_
    refine RC.seq ?_
    refine RC.region rfl ?_
    refine RL.q (Qt.mv rfl) ?_
    refine RL.nil ?_
    refine RE.sqN ?_
    -- stops: cond
    refine RC.condF rfl (rfl) ?_
    refine RC.skip ?_
    refine RE.sqN ?_
    refine RC.seq ?_
    refine RC.region rfl ?_
    refine RL.q (Qt.mv rfl) ?_
    refine RL.q (Qt.mv rfl) ?_
    refine RL.q (Qt.mv rfl) ?_
    refine RL.q (Qt.as rfl) ?_
    refine RL.q (Qt.as rfl) ?_
    refine RL.q (Qt.as rfl) ?_
    refine RL.nil ?_
    refine RE.sqN ?_
    refine RC.ret ?_
    -- stops: end ret
    exact RE.retB rfl ⟨rfl, rfl⟩ hS
  · have e : rTop l = .tuple #[.int .u8 (rget l (rtop l)).lv, .int .i64 (rget l (rtop l)).id, .bool true] := if_neg h
    have ht := rqTop p n l
    rw [e] at ht ⊢
    rw [rPop, if_neg h]
    refine Ct.enter Try.func39 rfl (Nat.le_of_ble_eq_true rfl) ?_
    intro oo w R hS
    change RC _ _ _ _ _ _ [(0, _)] _
    refine RC.seq ?_
    refine RC.region rfl ?_
    refine RL.q (Qt.as rfl) ?_
    refine RL.q (Qt.as rfl) ?_
    refine RL.q (Qt.as rfl) ?_
    refine RL.nil ?_
    refine RE.sqN ?_
    refine RC.seq ?_
    refine RC.region rfl ?_
    refine RL.q (Qt.mv rfl) ?_
    -- stops: op call
    refine RL.e (Ef.call hS (ht) rfl rfl Try.call32 [0] [1] (by decide) rfl rfl) ?_
    rintro v10 w ⟨ps, ⟨rfl, rfl⟩, hS⟩
    refine RL.q (Qt.mv rfl) ?_
    refine RL.q (Qt.ext rfl rfl) ?_
    refine RL.q (Qt.ext rfl rfl) ?_
    refine RL.q (Qt.ext rfl rfl) ?_
    refine RL.q (Qt.as rfl) ?_
    refine RL.q (Qt.as rfl) ?_
    refine RL.q (Qt.as rfl) ?_
    refine RL.nil ?_
    refine RE.sqN ?_
    refine RC.seq ?_
    refine RC.seq ?_
    refine RC.region rfl ?_
    refine RL.q (Qt.mv rfl) ?_
    refine RL.nil ?_
    refine RE.sqN ?_
    -- stops: cond
    refine RC.condT rfl (rfl) ?_
    refine RC.region rfl ?_
    refine RL.q (Qt.mv rfl) ?_
    refine RL.q (Qt.mv rfl) ?_
    -- stops: op call
    refine RL.e (Ef.call hS (rqTop0 _ n l) rfl rfl Try.call43 [0] [1] (by decide) rfl rfl) ?_
    rintro v17 w ⟨ps, ⟨rfl, rfl⟩, hS⟩
    -- stops: op call
    refine RL.e (Ef.call hS (rqOut _ n l (rtop l) (by omega) (by omega)) rfl rfl Try.call45 [0] [1] (by decide) rfl rfl) ?_
    rintro v18 w ⟨ps, ⟨rfl, rfl⟩, hS⟩
    refine RL.nil ?_
    refine RE.sqN ?_
    refine RC.seq ?_
    refine RC.region rfl ?_
    refine RL.q (Qt.mv rfl) ?_
    refine RL.q (Qt.mv rfl) ?_
    refine RL.q (Qt.mv rfl) ?_
    refine RL.q (Qt.as rfl) ?_
    refine RL.q (Qt.as rfl) ?_
    refine RL.q (Qt.as rfl) ?_
    refine RL.nil ?_
    refine RE.sqN ?_
    refine RC.ret ?_
    -- stops: end ret
    exact RE.retB rfl ⟨rfl, rfl⟩ hS
end Go.Proofs

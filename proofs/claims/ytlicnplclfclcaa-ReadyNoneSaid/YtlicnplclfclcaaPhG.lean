/- The heap of deadlines: siblings are gathered, two by two, and then from the last one on. -/
import Derived.Test.YtlicnplclfclcaaPh
namespace Go.Proofs
open Go Go.Gx
variable {oo : World}

structure GI (n : Nat) (f0 f : PH) (t rest : BT) (ts : List BT) : Prop where
  rep : ∃ p, Rep f p rest
  ord : Ord f rest
  trs : ∀ x ∈ ts, Tr f x
  perm : (rest.ids ++ ts.flatMap BT.ids).Perm t.ids
  mv : Mv f0 f t.ids
  bd : Bd n f
def gAfter (f : PH) (b : Int) : Int := if b = -1 then -1 else f.next b
def gLoose (f : PH) (a b : Int) : PH := if b = -1 then looseF f a else looseF (looseF f b) a

theorem mem_flat {ts : List BT} {x : BT} (hx : x ∈ ts) {i : Int} (hi : i ∈ x.ids) : i ∈ ts.flatMap BT.ids := List.mem_flatMap.2 ⟨x, hx, hi⟩

theorem GI.step {n : Nat} {f0 f : PH} {t : BT} {ts : List BT} {a : Int} {c nx : BT} (h : GI n f0 f t (.node a c nx) ts) (hnd : t.ids.Nodup) (hnn : ∀ i ∈ t.ids, 0 ≤ i ∧ i < n) :
    (0 ≤ a ∧ a < n) ∧ f.next a = nx.root ∧ (nx.root = -1 ∨ (0 ≤ nx.root ∧ nx.root < n)) ∧ (-1 ≤ gAfter f nx.root ∧ gAfter f nx.root < n) ∧ Bd n (gLoose f a nx.root) ∧
    ∃ rest' x, GI n f0 (meldF (gLoose f a nx.root) a nx.root).1 t rest' (ts ++ [x]) ∧ (meldF (gLoose f a nx.root) a nx.root).2 = x.root ∧ rest'.root = gAfter f nx.root ∧ rest'.ids.length < (BT.node a c nx).ids.length := by
  obtain ⟨p, hrep⟩ := h.rep
  have hall : ((BT.node a c nx).ids ++ ts.flatMap BT.ids).Nodup := h.perm.nodup_iff.2 hnd
  have hnn' : ∀ i ∈ (BT.node a c nx).ids, 0 ≤ i ∧ i < n := fun i hi => hnn i (h.perm.mem_iff.1 (List.mem_append.2 (.inl hi)))
  have hsub : ∀ i ∈ (BT.node a c nx).ids, i ∈ t.ids := fun i hi => h.perm.mem_iff.1 (List.mem_append.2 (.inl hi))
  have ha := hnn' a (by simp [BT.ids])
  rw [List.nodup_append] at hall
  obtain ⟨n1, n2, n3⟩ := hall
  have hnext : f.next a = nx.root := hrep.2.2.1
  cases nx with
  | nil =>
    have hr : BT.nil.root = -1 := rfl
    have hg : gLoose f a BT.nil.root = looseF f a := if_pos rfl
    have hf : gAfter f BT.nil.root = -1 := if_pos rfl
    have hm : meldF (looseF f a) a (-1) = (looseF f a, a) := by
      rw [meldF, if_pos (.inr rfl), Int.max_eq_left (by omega)]
    rw [hg, hf, hr, hm]
    obtain ⟨t1, m1⟩ := pair_one hrep h.ord n1 (fun i hi => (hnn' i hi).1)
    refine ⟨ha, hnext, .inl rfl, ⟨by omega, by omega⟩, h.bd.loose a, .nil, .node a c .nil, ⟨⟨-1, trivial⟩, trivial, ?_, ?_, ?_, h.bd.loose a⟩, rfl, rfl, by simp [BT.ids]⟩
    · intro x hx
      rcases List.mem_append.1 hx with hx | hx
      · exact (h.trs x hx).mv m1 fun i hi e => n3 i e i (mem_flat hx hi) rfl
      · simp at hx; subst hx; exact t1
    · rw [List.flatMap_append]
      refine List.Perm.trans ?_ h.perm
      simp only [BT.ids, List.nil_append, List.flatMap_cons, List.flatMap_nil, List.append_nil]
      exact List.perm_append_comm
    · exact (h.mv.trans m1).mono fun i hi => by
        rcases List.mem_append.1 hi with hi | hi
        · exact hi
        · exact hsub i hi
  | node b d r =>
    have hb := hnn' b (by simp [BT.ids])
    have hr : (BT.node b d r).root = b := rfl
    have hb1 : ¬ b = -1 := by omega
    have hg : gLoose f a b = looseF (looseF f b) a := if_neg hb1
    have hf : gAfter f b = f.next b := if_neg hb1
    rw [hr, hg, hf]
    obtain ⟨t1, t2, t3, m1, e1, e2⟩ := pair_two hrep h.ord n1 (fun i hi => (hnn' i hi).1)
    have hdis : ((BT.node a c .nil).ids ++ (BT.node b d .nil).ids).Nodup := by
      have hp : (BT.node a c (.node b d r)).ids.Perm (((BT.node a c .nil).ids ++ (BT.node b d .nil).ids) ++ r.ids) := by
        simp only [BT.ids, List.append_nil]
        rw [List.perm_iff_count]; intro z; simp only [List.count_cons, List.count_append]; omega
      have := hp.nodup_iff.1 n1
      rw [List.nodup_append] at this
      exact this.1
    have hp : (BT.node a c (.node b d r)).ids.Perm (r.ids ++ ((BT.node a c .nil).ids ++ (BT.node b d .nil).ids)) := by
      simp only [BT.ids, List.append_nil]
      rw [List.perm_iff_count]; intro z; simp only [List.count_cons, List.count_append]; omega
    have hrd : ∀ i ∈ r.ids, i ∉ (BT.node a c .nil).ids ++ (BT.node b d .nil).ids := fun i hi e => by
      have := hp.nodup_iff.1 n1
      rw [List.nodup_append] at this
      exact this.2.2 i hi i e rfl
    obtain ⟨k1, k2, k3, k4⟩ := meld_tr t1 t2 hdis
    change Tr (meldF _ a b).1 _ at k1
    change (meldF _ a b).2 = _ at k2
    change Mv _ (meldF _ a b).1 _ at k4
    have hmvS : Mv f (meldF (looseF (looseF f b) a) a b).1 ((BT.node a c .nil).ids ++ (BT.node b d .nil).ids) := (m1.trans k4).mono fun i hi => by
      rcases List.mem_append.1 hi with hi | hi
      · simp only [List.mem_cons, List.not_mem_nil, or_false] at hi
        rcases hi with rfl | rfl <;> simp [BT.ids]
      · exact hi
    have hin : ∀ i ∈ (BT.node a c .nil).ids ++ (BT.node b d .nil).ids, i ∈ (BT.node a c (.node b d r)).ids := fun i hi => hp.mem_iff.2 (List.mem_append.2 (.inr hi))
    have hbd : Bd n (looseF (looseF f b) a) := (h.bd.loose b).loose a
    refine ⟨ha, hnext, .inr hb, (h.bd b hb.1 hb.2).2.1, hbd, r, meldT (looseF (looseF f b) a) (.node a c .nil) (.node b d .nil), ⟨⟨b, t3.mv k4 hrd⟩, h.ord.2.2.2.2.it hmvS.it, ?_, ?_, ?_, (hbd.meld (by omega) (by omega)).1⟩, k2, e2.symm, ?_⟩
    · intro x hx
      rcases List.mem_append.1 hx with hx | hx
      · exact (h.trs x hx).mv hmvS fun i hi e => n3 i (hin i e) i (mem_flat hx hi) rfl
      · simp at hx; subst hx; exact k1
    · rw [List.flatMap_append]
      simp only [List.flatMap_cons, List.flatMap_nil, List.append_nil]
      refine List.Perm.trans ?_ h.perm
      have q1 : (ts.flatMap BT.ids ++ (meldT (looseF (looseF f b) a) (.node a c .nil) (.node b d .nil)).ids).Perm (ts.flatMap BT.ids ++ ((BT.node a c .nil).ids ++ (BT.node b d .nil).ids)) := (List.perm_append_left_iff _).2 k3
      refine ((List.perm_append_left_iff _).2 q1).trans ?_
      refine List.Perm.trans ?_ ((List.perm_append_right_iff _).2 hp.symm)
      rw [List.append_assoc]
      exact (List.perm_append_left_iff _).2 List.perm_append_comm
    · exact (h.mv.trans hmvS).mono fun i hi => by
        rcases List.mem_append.1 hi with hi | hi
        · exact hi
        · exact hsub i (hin i hi)
    · simp only [BT.ids, List.length_cons, List.length_append]; omega

structure GB (n : Nat) (f0 f : PH) (t : BT) (ts : List BT) (m : Nat) (g : BT) : Prop where
  trs : ∀ x ∈ ts.take m, Tr f x
  gtr : Tr f g
  perm : ((ts.take m).flatMap BT.ids ++ g.ids).Perm t.ids
  mv : Mv f0 f t.ids
  bd : Bd n f
theorem GI.toB {n : Nat} {f0 f : PH} {t : BT} {ts : List BT} (h : GI n f0 f t .nil ts) : GB n f0 f t ts ts.length .nil :=
  ⟨by rw [List.take_length]; exact h.trs, Tr.nil, by rw [List.take_length]; simpa [BT.ids] using h.perm, h.mv, h.bd⟩
theorem root_in {n : Nat} {t x : BT} (h : ∀ i ∈ x.ids, i ∈ t.ids) (hnn : ∀ i ∈ t.ids, 0 ≤ i ∧ i < n) : -1 ≤ x.root ∧ x.root < n := by
  rcases x.root_mem with ⟨e, _⟩ | e
  · omega
  · have := hnn _ (h _ e); omega
theorem GB.step {n : Nat} {f0 f : PH} {t : BT} {ts : List BT} {m : Nat} {g : BT} (hm : m < ts.length) (h : GB n f0 f t ts (m + 1) g) (hnd : t.ids.Nodup) (hnn : ∀ i ∈ t.ids, 0 ≤ i ∧ i < n) :
    (-1 ≤ g.root ∧ g.root < n) ∧ (-1 ≤ (ts[m]).root ∧ (ts[m]).root < n) ∧ GB n f0 (meldF f g.root (ts[m]).root).1 t ts m (meldT f g ts[m]) ∧ (meldF f g.root (ts[m]).root).2 = (meldT f g ts[m]).root := by
  have htk : ts.take (m + 1) = ts.take m ++ [ts[m]] := List.take_succ_eq_append_getElem hm
  have hp := h.perm
  rw [htk, List.flatMap_append, List.flatMap_cons, List.flatMap_nil, List.append_nil, List.append_assoc] at hp
  have hp2 : ((ts.take m).flatMap BT.ids ++ (g.ids ++ (ts[m]).ids)).Perm t.ids := ((List.perm_append_left_iff _).2 List.perm_append_comm).trans hp
  have hall := hp2.nodup_iff.2 hnd
  rw [List.nodup_append] at hall
  obtain ⟨n1, n2, n3⟩ := hall
  have hgi : ∀ i ∈ g.ids, i ∈ t.ids := fun i hi => hp2.mem_iff.1 (by simp [hi])
  have hxi : ∀ i ∈ (ts[m]).ids, i ∈ t.ids := fun i hi => hp2.mem_iff.1 (by simp [hi])
  have hg := root_in hgi hnn
  have hx := root_in hxi hnn
  obtain ⟨k1, k2, k3, k4⟩ := meld_tr h.gtr (h.trs ts[m] (by rw [htk]; exact List.mem_append.2 (.inr (List.mem_singleton.2 rfl)))) n2
  refine ⟨hg, hx, ⟨fun x hx => ?_, k1, ((List.perm_append_left_iff _).2 k3).trans hp2, (h.mv.trans k4).mono fun i hi => ?_, (h.bd.meld hg hx).1⟩, k2⟩
  · exact (h.trs x (by rw [htk]; exact List.mem_append.2 (.inl hx))).mv k4 fun i hi e => n3 i (mem_flat hx hi) i e rfl
  · rcases List.mem_append.1 hi with hi | hi
    · exact hi
    · rcases List.mem_append.1 hi with hi | hi
      · exact hgi i hi
      · exact hxi i hi

theorem lastFirst (l : List Int) {k : Nat} (hk : k < ((List.range l.length).reverse.map fun (i : Nat) => #[Value.int .i64 i, .int .i64 (l.getD i 0)]).length) :
    ((List.range l.length).reverse.map fun (i : Nat) => #[Value.int .i64 i, .int .i64 (l.getD i 0)])[k] = #[.int .i64 ((l.length - 1 - k : Nat) : Int), .int .i64 (l.getD (l.length - 1 - k) 0)] := by
  rw [List.getElem_map, List.getElem_reverse, List.getElem_range, List.length_range]

theorem backward (v : Value) : Ct Try.prog 145 #[v] [] (fun u ps => ∃ b1, u = .func (.func 149) #[] #[.pointer (some ⟨b1, 0, none⟩)] ∧ ps = [pt b1 (.cells v.cells 28 (0, 0))]) := by
  refine Ct.enter Try.func145 rfl (Nat.le_of_ble_eq_true rfl) ?_
  intro oo w R hS
  change RC _ _ _ _ _ _ [(0, _)] _
  refine RC.seq ?_
  refine RC.region rfl ?_
  refine RL.e (Ef.box hS rfl) ?_
  rintro _ w ⟨b1, rfl, hS⟩
  try simp (disch := omega) only [List.set_cons_zero, List.set_cons_succ, cells_int, cells_bool, cells_ptr, cells_slice, cells_func, cells_agg, cells_map, cells_int', cells_bool', cells_ptr', cells_slice', cells_agg', cells_map', cells_func', Nat.zero_add, wr, List.setIfInBounds_toArray] at hS
  refine RL.q (Qt.as rfl) ?_
  refine RL.nil ?_
  refine RE.sqN ?_
  refine RC.seq ?_
  refine RC.region rfl ?_
  refine RL.q (Qt.mkf1 rfl) ?_
  refine RL.q (Qt.as rfl) ?_
  refine RL.nil ?_
  refine RE.sqN ?_
  refine RC.ret ?_
  -- stops: end ret
  exact RE.retB rfl ⟨b1, rfl, rfl⟩ hS

set_option maxHeartbeats 1000000 in
theorem backward1 (b1 : Nat) (sp : Option Addr) (cap : Nat) (l : List Int) (hl : l.length ≤ 1000000) : It Try.prog 149 #[.pointer (some ⟨b1, 0, none⟩)]
    [pt b1 (.cells #[.slice sp l.length cap] 28 (0, 0)), own (.slice sp l.length cap) 3 1 l.length (ints l)] ((List.range l.length).reverse.map fun (i : Nat) => #[.int .i64 i, .int .i64 (l.getD i 0)]) := by
  refine It.enter Try.func149 rfl (Nat.le_of_ble_eq_true rfl) ?_
  intro oo lY J X w hY hS
  change RC _ _ _ _ _ _ [(0, _), (1, _)] _
  refine RC.seq ?_
  refine RC.region rfl ?_
  refine RL.q (Qt.ld rfl (by first | exact hS.at 0 rfl | exact hS.at 1 rfl | exact hS.at 2 rfl) (by first  | rfl)) ?_
  refine RL.q (Qt.lenS rfl) ?_
  refine RL.q ((by first | exact Qt.subI rfl rfl (by dsimp only [inK]; omega) | exact Qt.sub rfl rfl)) ?_
  refine RL.q (Qt.as rfl) ?_
  refine RL.nil ?_
  refine RE.sqN ?_
  refine RC.block ?_
  -- stops: loop
  refine RC.loop (γ := Nat × Int) (fun g E w' => E = [(3, .int .i64 g.2), (0, .func (.yield lY) #[] #[]), (1, .pointer (some ⟨b1, 0, none⟩))] ∧ Sat oo w' [pt b1 (.cells #[.slice sp l.length cap] 28 (0, 0)), own (.slice sp l.length cap) 3 1 l.length (ints l), J g.1] ∧ g.1 ≤ l.length ∧ g.2 = (l.length : Int) - 1 - g.1) (fun g => l.length - g.1) (0, (l.length : Int) - 1) _ (by (repeat (first | exact Sub.nil | refine Sub.cons rfl ?_))) ⟨rfl, hS, by simp, by simp⟩ ?_
  clear hS
  rintro ⟨k, v⟩ E w ⟨rfl, hS, hk, hv0⟩
  dsimp only at hS hk hv0
  refine RC.seq ?_
  refine RC.seq ?_
  refine RC.region rfl ?_
  refine RL.q (Qt.mv rfl) ?_
  refine RL.q (Qt.geq rfl rfl) ?_
  refine RL.nil ?_
  refine RE.sqN ?_
  -- stops: cond
  refine RC.cond rfl (fun h => ?_) (fun h => ?_)
  · skip
    have h := of_decide_eq_true h
    obtain ⟨m, rfl, hm⟩ : ∃ m : Nat, v = m ∧ m = l.length - 1 - k := ⟨l.length - 1 - k, by omega, rfl⟩
    have hlt : k < l.length := by omega
    have hml : m < l.length := by omega
    have hyk := hY k (by simpa using hlt) w hS
    rw [lastFirst l (by simpa using hlt), ← hm] at hyk
    obtain ⟨bs, cap', c, hv, hc1, hc2, hc3, hc4, hS1⟩ := hS.ownPos 1 rfl (by omega)
    cases hv
    have hg : c.toList[0 + ((m : Nat) : Int).toNat * 1]? = some (.int .i64 (l.getD m 0)) := by
      rw [int_cell hc4 rfl hml]
      simp [hml]
    have hS := hS1
    refine RC.skip ?_
    refine RE.sqN ?_
    refine RC.seq ?_
    refine RC.block ?_
    refine RC.seq ?_
    refine RC.region rfl ?_
    refine RL.q (Qt.mv rfl) ?_
    refine RL.q (Qt.mv rfl) ?_
    refine RL.q (Qt.ld rfl (by first | exact hS.at 0 rfl | exact hS.at 1 rfl | exact hS.at 2 rfl) (by first | exact hg | rfl)) ?_
    refine RL.q (Qt.mv rfl) ?_
    refine RL.q (Qt.ixS rfl rfl (by first | assumption | omega | (dsimp only; omega)) (by first | assumption | omega | (dsimp only; omega))) ?_
    refine RL.q (Qt.ld rfl (by first | exact hS.at 0 rfl | exact hS.at 1 rfl | exact hS.at 2 rfl) (by first | exact hg | rfl)) ?_
    -- stops: op call
    refine RL.e (Ef.yield rfl rfl hyk) ?_
    rintro v17 w hv
    rcases hv with ⟨rfl, hS⟩ | ⟨rfl, hS⟩
    · skip
      refine RL.q (Qt.not rfl) ?_
      refine RL.nil ?_
      refine RE.sqN ?_
      -- stops: cond
      refine RC.condF rfl (rfl) ?_
      refine RC.skip ?_
      refine RE.bkN ?_
      refine RE.sqN ?_
      refine RC.region rfl ?_
      refine RL.q (Qt.mv rfl) ?_
      refine RL.q ((by first | exact Qt.subI rfl rfl (by dsimp only [inK]; omega) | exact Qt.sub rfl rfl)) ?_
      refine RL.q (Qt.as rfl) ?_
      refine RL.nil ?_
      -- stops: next
      apply RE.lpN ((k + 1, (m : Int) - 1))
      case hI => exact ⟨rfl, hS, hlt, by dsimp only; omega⟩
      case hs => (repeat (first | exact Sub.nil | refine Sub.cons rfl ?_))
      case hm =>
        show l.length - (k + 1) < l.length - k
        omega
    · skip
      refine RL.q (Qt.not rfl) ?_
      refine RL.nil ?_
      refine RE.sqN ?_
      -- stops: cond
      refine RC.condT rfl (rfl) ?_
      refine RC.ret ?_
      refine RE.bkR ?_
      refine RE.sqR ?_
      refine RE.lpR ?_
      refine RE.bkR ?_
      -- stops: end ret
      exact RE.retI rfl (.inr hS)
  · refine RC.exit ?_
    refine RE.sqX ?_
    refine RE.lpX ?_
    refine RE.bkX ?_
    -- stops: end normal
    have h := of_decide_eq_false h
    have hge : k = l.length := by omega
    have hkn : k = ((List.range l.length).reverse.map fun (i : Nat) => #[Value.int .i64 i, .int .i64 (l.getD i 0)]).length := by simp [hge]
    rw [hkn] at hS
    exact RE.endI rfl (.inl hS)

/-- What a round of the second loop leaves. -/
def gbP (bl b9 n : Nat) (f0 : PH) (t : BT) (ts : List BT) (m : Nat) : HP := fun F => ∃ x : PH × BT, GB n f0 x.1 t ts m x.2 ∧ Star [pt b9 (.cells #[.int .i64 x.2.root] 3 (0, 0)), hT bl n x.1] F
theorem gbP_open {w : World} {L : List HP} {bl b9 n m : Nat} {f0 : PH} {t : BT} {ts : List BT} (h : Sat oo w (gbP bl b9 n f0 t ts m :: L)) :
    ∃ f g, GB n f0 f t ts m g ∧ Sat oo w (pt b9 (.cells #[.int .i64 g.root] 3 (0, 0)) :: hT bl n f :: L) := by
  obtain ⟨⟨f, g⟩, h⟩ := h.ex (α := PH × BT) 0 rfl (q := fun x F => GB n f0 x.1 t ts m x.2 ∧ Star [pt b9 (.cells #[.int .i64 x.2.root] 3 (0, 0)), hT bl n x.1] F) (fun F h => h)
  exact ⟨f, g, h.fact 0 rfl (fun F hF => hF.1), (h.imp 0 rfl (fun F hF => hF.2)).unstar⟩
theorem gbP_shut {w : World} {L : List HP} {bl b9 n m : Nat} {f0 f : PH} {t g : BT} {ts : List BT} (hg : GB n f0 f t ts m g) (h : Sat oo w (pt b9 (.cells #[.int .i64 g.root] 3 (0, 0)) :: hT bl n f :: L)) : Sat oo w (gbP bl b9 n f0 t ts m :: L) :=
  (Sat.star (B := [pt b9 (.cells #[.int .i64 g.root] 3 (0, 0)), hT bl n f]) h).imp 0 rfl (fun F hF => ⟨(f, g), hg, hF⟩)

/-- What gathering leaves. -/
structure Gth (n : Nat) (f0 f : PH) (t g : BT) : Prop where
  tr : Tr f g
  perm : g.ids.Perm t.ids
  mv : Mv f0 f t.ids
  bd : Bd n f

set_option maxHeartbeats 4000000 in
theorem phGather (b bl n cap : Nat) (f0 : PH) (root many : Int) (t : BT) (hb : Bd n f0) (hn2 : n ≤ 1024) (hrep : ∃ p, Rep f0 p t) (hord : Ord f0 t) (hnd : t.ids.Nodup) (hnn : ∀ i ∈ t.ids, 0 ≤ i ∧ i < n) : Ct Try.prog 126 #[.pointer (some ⟨b, 0, none⟩), .int .i64 t.root] [pt b (hC bl n cap root many), hT bl n f0]
    (fun v ps => ∃ f g, v = .int .i64 g.root ∧ Gth n f0 f t g ∧ ps = [pt b (hC bl n cap root many), hT bl n f]) := by
  refine Ct.enter Try.func126 rfl (Nat.le_of_ble_eq_true rfl) ?_
  intro oo w R hS
  change RC _ _ _ _ _ _ [(0, _), (1, _)] _
  have hS := hS.nilOwn (T := 3) (sz := 1)
  refine RC.seq ?_
  refine RC.region rfl ?_
  refine RL.e (Ef.box hS rfl) ?_
  rintro _ w ⟨b2, rfl, hS⟩
  try simp (disch := omega) only [cells_ptr'] at hS
  refine RL.q (Qt.as rfl) ?_
  refine RL.nil ?_
  refine RE.sqN ?_
  refine RC.scope ?_
  refine RC.seq ?_
  refine RC.region rfl ?_
  refine RL.q (Qt.as rfl) ?_
  refine RL.nil ?_
  refine RE.sqN ?_
  refine RC.seq ?_
  refine RC.label ?_
  refine RE.sqN ?_
  refine RC.seq ?_
  refine RC.seq ?_
  refine RC.region rfl ?_
  refine RL.q (Qt.mv rfl) ?_
  refine RL.q (Qt.as rfl) ?_
  refine RL.nil ?_
  refine RE.sqN ?_
  refine RC.block ?_
  -- stops: loop
  refine RC.loop (γ := ((BT × List BT) × (PH × Value))) (fun g E w' => E = [(6, .int .i64 g.1.1.root), (5, g.2.2), (2, .pointer (some ⟨b2, 0, none⟩))] ∧ Sat oo w' [pt b2 (.cells #[.pointer (some ⟨b, 0, none⟩)] 23 (0, 0)), own g.2.2 3 1 (g.1.2.map BT.root).length (ints (g.1.2.map BT.root)), pt b (hC bl n cap root many), hT bl n g.2.1, R] ∧ GI n f0 g.2.1 t g.1.1 g.1.2 ∧ g.1.2.length + g.1.1.ids.length ≤ t.ids.length) (fun g => g.1.1.ids.length) ((t, []), (f0, .slice none 0 0)) _ (by (repeat (first | exact Sub.nil | refine Sub.cons rfl ?_))) ⟨rfl, hS, ⟨hrep, hord, by simp, by simp, Mv.refl _ _, hb⟩, by simp⟩ ?_
  clear hS
  have hlen : t.ids.length ≤ n := nodup_bound n t.ids hnd hnn
  rintro ⟨⟨rest, ts⟩, f, s⟩ E w ⟨rfl, hS, hgi, hle⟩
  dsimp only at hS hgi hle
  refine RC.block ?_
  refine RC.seq ?_
  refine RC.seq ?_
  refine RC.region rfl ?_
  refine RL.q (Qt.mv rfl) ?_
  refine RL.q (Qt.eql rfl rfl) ?_
  refine RL.nil ?_
  refine RE.sqN ?_
  -- stops: cond
  refine RC.cond rfl (fun h => ?_) (fun h => ?_)
  · skip
    have hr : rest = .nil := by
      have h : rest.root = -1 := of_decide_eq_true h
      rcases rest.root_mem with ⟨_, e⟩ | e
      · exact e
      · have := hnn _ (hgi.perm.mem_iff.1 (List.mem_append.2 (.inl e)))
        omega
    subst hr
    obtain ⟨sp, cps, rfl⟩ := hS.ownForm 1 rfl
    have hml : (ts.map BT.root).length = ts.length := List.length_map _
    refine RC.exit ?_
    refine RE.sqX ?_
    refine RE.bkY rfl ?_
    refine RE.lpX ?_
    refine RE.bkX ?_
    refine RE.sqN ?_
    refine RC.seq ?_
    refine RC.region rfl ?_
    refine RL.e (Ef.alloc hS) ?_
    rintro _ w ⟨b9, rfl, hS⟩
    try simp (disch := omega) only [cells_int'] at hS
    first | refine RL.e0 (Ef.st hS 0 rfl rfl rfl (by rfl) (by rfl) (by first | exact Nat.le_of_ble_eq_true rfl | omega | (simp only [Array.size_map]; omega))) ?_ | refine RL.e0 (Ef.st hS 1 rfl rfl rfl (by rfl) (by rfl) (by first | exact Nat.le_of_ble_eq_true rfl | omega | (simp only [Array.size_map]; omega))) ?_ | refine RL.e0 (Ef.st hS 2 rfl rfl rfl (by rfl) (by rfl) (by first | exact Nat.le_of_ble_eq_true rfl | omega | (simp only [Array.size_map]; omega))) ?_ | refine RL.e0 (Ef.st hS 3 rfl rfl rfl (by rfl) (by rfl) (by first | exact Nat.le_of_ble_eq_true rfl | omega | (simp only [Array.size_map]; omega))) ?_ | refine RL.e0 (Ef.st hS 4 rfl rfl rfl (by rfl) (by rfl) (by first | exact Nat.le_of_ble_eq_true rfl | omega | (simp only [Array.size_map]; omega))) ?_ | refine RL.e0 (Ef.st hS 5 rfl rfl rfl (by rfl) (by rfl) (by first | exact Nat.le_of_ble_eq_true rfl | omega | (simp only [Array.size_map]; omega))) ?_
    intro _ w hS
    simp (disch := omega) only [List.set_cons_zero, cells_int', wr, List.setIfInBounds_toArray] at hS
    refine RL.nil ?_
    refine RE.sqN ?_
    refine RC.seq ?_
    refine RC.seq ?_
    refine RC.region rfl ?_
    refine RL.q (Qt.mv rfl) ?_
    -- stops: op call
    refine RL.e (Ef.call hS (backward (.slice sp (ts.map BT.root).length cps)) rfl rfl Try.call145 [] [0, 1, 2, 3, 4, 5] (by decide) rfl rfl) ?_
    rintro v48 w ⟨ps, ⟨b1, rfl, rfl⟩, hS⟩
    refine RL.nil ?_
    refine RE.sqN ?_
    refine RC.block ?_
    -- stops: rangeFunc
    have hS := gbP_shut hgi.toB (hS.pick [1, 5, 0, 2, 3, 4, 6] (by decide) rfl)
    refine RC.rangeFn hS (backward1 b1 sp cps (ts.map BT.root) (by omega)) rfl Try.call149 [1, 3] [0, 2, 4, 5] (by decide) rfl rfl (by simp) (by decide) (fun k => [gbP bl b9 n f0 t ts (ts.length - k), pt b2 (.cells #[.pointer (some ⟨b, 0, none⟩)] 23 (0, 0)), pt b (hC bl n cap root many), R]) (by simp) (fun _ _ => False) ?_ ?_ (fun _ _ _ _ h => h.elim)
    · intro k hk l' b' r w hr hS
      have hlt : k < ts.length := by simpa using hk
      rw [lastFirst _ hk]
      obtain ⟨m, hm1, hm2⟩ : ∃ m, ts.length - k = m + 1 ∧ (ts.map BT.root).length - 1 - k = m := ⟨ts.length - k - 1, by omega, by omega⟩
      have hmlt : m < ts.length := by omega
      have hroot : (ts.map BT.root).getD m 0 = (ts[m]).root := by simp [hmlt]
      rw [hm2, hroot]
      rw [hm1] at hS
      change RC _ _ _ _ _ _ ((50, .int .i64 (ts[m]).root) :: (49, .int .i64 m) :: _) _
      obtain ⟨f', g, hgb, hS⟩ := gbP_open (hS.pick [2, 0, 1, 3, 4, 5, 6, 7] (by decide) rfl)
      obtain ⟨hg, hx, hgb', hr2⟩ := hgb.step hmlt hnd hnn
      refine RC.region rfl ?_
      refine RL.q (Qt.as rfl) ?_
      refine RL.nil ?_
      refine RE.begin (k := 8) hS rfl hr.1 (fun w hS => ?_)
      simp only [List.set_cons_zero, List.set_cons_succ] at hS
      refine RC.block ?_
      refine RC.region rfl ?_
      refine RL.q (Qt.ld rfl (by first | exact hS.at 0 rfl | exact hS.at 1 rfl | exact hS.at 2 rfl | exact hS.at 3 rfl | exact hS.at 4 rfl | exact hS.at 5 rfl | exact hS.at 6 rfl | exact hS.at 7 rfl | exact hS.at 8 rfl) (by first  | rfl)) ?_
      refine RL.q (Qt.ld rfl (by first | exact hS.at 0 rfl | exact hS.at 1 rfl | exact hS.at 2 rfl | exact hS.at 3 rfl | exact hS.at 4 rfl | exact hS.at 5 rfl | exact hS.at 6 rfl | exact hS.at 7 rfl | exact hS.at 8 rfl) (by first  | rfl)) ?_
      refine RL.q (Qt.mv rfl) ?_
      -- stops: op call
      refine RL.e (Ef.call hS (phMeld b bl n cap f' root many g.root (ts[m]).root hgb.bd hg hx) rfl rfl Try.call84 [5, 1] [0, 2, 3, 4, 6, 7, 8] (by decide) rfl rfl) ?_
      rintro v54 w ⟨ps, ⟨rfl, rfl⟩, hS⟩
      rw [hr2]
      first | refine RL.e0 (Ef.st hS 0 rfl rfl rfl (by rfl) (by rfl) (by first | exact Nat.le_of_ble_eq_true rfl | omega | (simp only [Array.size_map]; omega))) ?_ | refine RL.e0 (Ef.st hS 1 rfl rfl rfl (by rfl) (by rfl) (by first | exact Nat.le_of_ble_eq_true rfl | omega | (simp only [Array.size_map]; omega))) ?_ | refine RL.e0 (Ef.st hS 2 rfl rfl rfl (by rfl) (by rfl) (by first | exact Nat.le_of_ble_eq_true rfl | omega | (simp only [Array.size_map]; omega))) ?_ | refine RL.e0 (Ef.st hS 3 rfl rfl rfl (by rfl) (by rfl) (by first | exact Nat.le_of_ble_eq_true rfl | omega | (simp only [Array.size_map]; omega))) ?_ | refine RL.e0 (Ef.st hS 4 rfl rfl rfl (by rfl) (by rfl) (by first | exact Nat.le_of_ble_eq_true rfl | omega | (simp only [Array.size_map]; omega))) ?_ | refine RL.e0 (Ef.st hS 5 rfl rfl rfl (by rfl) (by rfl) (by first | exact Nat.le_of_ble_eq_true rfl | omega | (simp only [Array.size_map]; omega))) ?_ | refine RL.e0 (Ef.st hS 6 rfl rfl rfl (by rfl) (by rfl) (by first | exact Nat.le_of_ble_eq_true rfl | omega | (simp only [Array.size_map]; omega))) ?_ | refine RL.e0 (Ef.st hS 7 rfl rfl rfl (by rfl) (by rfl) (by first | exact Nat.le_of_ble_eq_true rfl | omega | (simp only [Array.size_map]; omega))) ?_ | refine RL.e0 (Ef.st hS 8 rfl rfl rfl (by rfl) (by rfl) (by first | exact Nat.le_of_ble_eq_true rfl | omega | (simp only [Array.size_map]; omega))) ?_
      intro _ w hS
      simp (disch := omega) only [List.set_cons_zero, cells_int', wr, List.setIfInBounds_toArray] at hS
      refine RL.nil ?_
      refine RE.bkN ?_
      -- stops: rd normal
      refine RE.rdN hr ?_
      have hS := gbP_shut hgb' (hS.pick [2, 1, 3, 4, 5, 0, 6, 7, 8] (by decide) rfl)
      rw [show ts.length - (k + 1) = m by omega]
      exact hS.pick [1, 2, 0, 3, 4, 5, 6, 7] (by decide) rfl
    · intro b' w hS
      rw [show ts.length - ((List.range (ts.map BT.root).length).reverse.map fun (i : Nat) => #[Value.int .i64 i, .int .i64 ((ts.map BT.root).getD i 0)]).length = 0 by simp] at hS
      obtain ⟨f', g, hgb, hS⟩ := gbP_open (hS.pick [2, 0, 1, 3, 4, 5, 6] (by decide) rfl)
      refine RE.bkN ?_
      refine RE.sqN ?_
      refine RC.seq ?_
      refine RC.region rfl ?_
      refine RL.q (Qt.ld rfl (by first | exact hS.at 0 rfl | exact hS.at 1 rfl | exact hS.at 2 rfl | exact hS.at 3 rfl | exact hS.at 4 rfl | exact hS.at 5 rfl | exact hS.at 6 rfl | exact hS.at 7 rfl) (by first  | rfl)) ?_
      refine RL.q (Qt.as rfl) ?_
      refine RL.nil ?_
      refine RE.sqN ?_
      refine RC.ret ?_
      refine RE.scR ?_
      -- stops: end ret
      refine RE.retM hS (k := 7) rfl rfl (ps := [pt b (hC bl n cap root many), hT bl n f']) ⟨f', g, rfl, ⟨hgb.gtr, by simpa using hgb.perm, hgb.mv, hgb.bd⟩, rfl⟩ [5, 1, 6] (by decide) rfl
  · skip
    have h : ¬ rest.root = -1 := of_decide_eq_false h
    cases rest with
    | nil => exact absurd rfl h
    | node a ca nx =>
      obtain ⟨ha, e1, hbr, haf, hbd, rest', x, hgi', e2, e3, hlt⟩ := hgi.step hnd hnn
      have hml : (ts.map BT.root).length = ts.length := List.length_map _
      have hnl : (BT.node a ca nx).ids.length ≤ t.ids.length := by omega
      have hpos : 0 < (BT.node a ca nx).ids.length := by simp [BT.ids]
      have hra : (BT.node a ca nx).root = a := rfl
      rw [hra]
      have er : ((ts ++ [x]).map BT.root).length = (ts.map BT.root).length + 1 := by simp
      have ei : ints ((ts ++ [x]).map BT.root) = ints (ts.map BT.root) ++ [.int .i64 x.root] := by simp [ints]
      obtain ⟨c, hc, hS⟩ := hS.tabOpen 3 rfl
      have hsz := hc.size
      have hcn : c.toList[0 + a.toNat * 6 + 3]? = some (.int .i64 nx.root) := by rw [← e1]; exact pr3 hc ha.1 ha.2
      refine RC.skip ?_
      refine RE.sqN ?_
      refine RC.seq ?_
      refine RC.region rfl ?_
      refine RL.q (Qt.ld rfl (by first | exact hS.at 0 rfl | exact hS.at 1 rfl | exact hS.at 2 rfl | exact hS.at 3 rfl | exact hS.at 4 rfl) (by first | exact hcn | rfl)) ?_
      refine RL.q (Qt.nil rfl) ?_
      refine RL.q (Qt.fld rfl) ?_
      refine RL.q (Qt.ld rfl (by first | exact hS.at 0 rfl | exact hS.at 1 rfl | exact hS.at 2 rfl | exact hS.at 3 rfl | exact hS.at 4 rfl) (by first | exact hcn | rfl)) ?_
      refine RL.q (Qt.mv rfl) ?_
      refine RL.q (Qt.ixS rfl rfl (by first | assumption | omega | (dsimp only; omega)) (by first | assumption | omega | (dsimp only; omega))) ?_
      refine RL.q (Qt.fld rfl) ?_
      refine RL.q (Qt.ld rfl (by first | exact hS.at 0 rfl | exact hS.at 1 rfl | exact hS.at 2 rfl | exact hS.at 3 rfl | exact hS.at 4 rfl) (by first | exact hcn | rfl)) ?_
      refine RL.q (Qt.as rfl) ?_
      refine RL.nil ?_
      refine RE.sqN ?_
      refine RC.seq ?_
      refine RC.region rfl ?_
      refine RL.q (Qt.as rfl) ?_
      refine RL.nil ?_
      refine RE.sqN ?_
      refine RC.seq ?_
      refine RC.seq ?_
      refine RC.region rfl ?_
      refine RL.q (Qt.mv rfl) ?_
      refine RL.q (Qt.neq rfl rfl) ?_
      refine RL.nil ?_
      refine RE.sqN ?_
      -- stops: cond
      refine RC.cond rfl (fun h2 => ?_) (fun h2 => ?_)
      · skip
        have h2 : nx.root ≠ -1 := of_decide_eq_true h2
        have hb0 := hbr.resolve_left h2
        have eaf : gAfter f nx.root = f.next nx.root := if_neg h2
        have elo : gLoose f a nx.root = looseF (looseF f nx.root) a := if_neg h2
        rw [eaf] at e3 haf
        rw [elo] at hbd hgi' e2
        have hcb : c.toList[0 + nx.root.toNat * 6 + 3]? = some (.int .i64 rest'.root) := by rw [e3]; exact pr3 hc hb0.1 hb0.2
        refine RC.seq ?_
        refine RC.region rfl ?_
        refine RL.q (Qt.ld rfl (by first | exact hS.at 0 rfl | exact hS.at 1 rfl | exact hS.at 2 rfl | exact hS.at 3 rfl | exact hS.at 4 rfl) (by first | exact hcb | rfl)) ?_
        refine RL.q (Qt.nil rfl) ?_
        refine RL.q (Qt.fld rfl) ?_
        refine RL.q (Qt.ld rfl (by first | exact hS.at 0 rfl | exact hS.at 1 rfl | exact hS.at 2 rfl | exact hS.at 3 rfl | exact hS.at 4 rfl) (by first | exact hcb | rfl)) ?_
        refine RL.q (Qt.mv rfl) ?_
        refine RL.q (Qt.ixS rfl rfl (by first | assumption | omega | (dsimp only; omega)) (by first | assumption | omega | (dsimp only; omega))) ?_
        refine RL.q (Qt.fld rfl) ?_
        refine RL.q (Qt.ld rfl (by first | exact hS.at 0 rfl | exact hS.at 1 rfl | exact hS.at 2 rfl | exact hS.at 3 rfl | exact hS.at 4 rfl) (by first | exact hcb | rfl)) ?_
        refine RL.q (Qt.as rfl) ?_
        refine RL.nil ?_
        refine RE.sqN ?_
        refine RC.region rfl ?_
        refine RL.q (Qt.ld rfl (by first | exact hS.at 0 rfl | exact hS.at 1 rfl | exact hS.at 2 rfl | exact hS.at 3 rfl | exact hS.at 4 rfl) (by first | exact hcb | rfl)) ?_
        refine RL.q (Qt.mv rfl) ?_
        -- stops: op call
        have hS := hS.tabShut 3 rfl hc
        try simp only [List.set_cons_zero, List.set_cons_succ] at hS
        refine RL.e (Ef.call hS (phLoose b bl n cap f root many nx.root hb0) rfl rfl Try.call144 [2, 3] [0, 1, 4] (by decide) rfl rfl) ?_
        rintro v35 w ⟨ps, ⟨rfl, rfl⟩, hS⟩
        refine RL.nil ?_
        refine RE.sqN ?_
        refine RC.seq ?_
        refine RC.region rfl ?_
        refine RL.q (Qt.ld rfl (by first | exact hS.at 0 rfl | exact hS.at 1 rfl | exact hS.at 2 rfl | exact hS.at 3 rfl | exact hS.at 4 rfl) (by first | exact hcb | rfl)) ?_
        refine RL.q (Qt.mv rfl) ?_
        -- stops: op call
        refine RL.e (Ef.call hS (phLoose b bl n cap (looseF f nx.root) root many a ha) rfl rfl Try.call144 [0, 1] [2, 3, 4] (by decide) rfl rfl) ?_
        rintro v38 w ⟨ps, ⟨rfl, rfl⟩, hS⟩
        refine RL.nil ?_
        refine RE.sqN ?_
        refine RC.seq ?_
        refine RC.region rfl ?_
        refine RL.q (Qt.mv rfl) ?_
        refine RL.q (Qt.ld rfl (by first | exact hS.at 0 rfl | exact hS.at 1 rfl | exact hS.at 2 rfl | exact hS.at 3 rfl | exact hS.at 4 rfl) (by first | exact hcb | rfl)) ?_
        refine RL.q (Qt.mv rfl) ?_
        refine RL.q (Qt.mv rfl) ?_
        -- stops: op call
        refine RL.e (Ef.call hS (phMeld b bl n cap _ root many a nx.root hbd (by omega) (by omega)) rfl rfl Try.call84 [0, 1] [2, 3, 4] (by decide) rfl rfl) ?_
        rintro v43 w ⟨ps, ⟨rfl, rfl⟩, hS⟩
        rw [e2]
        refine RL.e (Ef.bsl1 hS rfl) ?_
        rintro _ w ⟨b44, rfl, hS⟩
        try simp (disch := omega) only [cells_int'] at hS
        first | refine RL.e (Ef.app (k := 4) hS rfl rfl rfl (Src.pt (hS.get 0 rfl) (by first | exact Nat.le_of_ble_eq_true rfl | omega | (simp only [Array.size_map]; omega))) (by first | assumption | omega | (dsimp only; omega)) (by first | rfl | simp)) ?_ | refine RL.e (Ef.app (k := 4) hS rfl rfl rfl (Src.pt (hS.get 1 rfl) (by first | exact Nat.le_of_ble_eq_true rfl | omega | (simp only [Array.size_map]; omega))) (by first | assumption | omega | (dsimp only; omega)) (by first | rfl | simp)) ?_ | refine RL.e (Ef.app (k := 4) hS rfl rfl rfl (Src.pt (hS.get 2 rfl) (by first | exact Nat.le_of_ble_eq_true rfl | omega | (simp only [Array.size_map]; omega))) (by first | assumption | omega | (dsimp only; omega)) (by first | rfl | simp)) ?_ | refine RL.e (Ef.app (k := 4) hS rfl rfl rfl (Src.pt (hS.get 3 rfl) (by first | exact Nat.le_of_ble_eq_true rfl | omega | (simp only [Array.size_map]; omega))) (by first | assumption | omega | (dsimp only; omega)) (by first | rfl | simp)) ?_ | refine RL.e (Ef.app (k := 4) hS rfl rfl rfl (Src.pt (hS.get 4 rfl) (by first | exact Nat.le_of_ble_eq_true rfl | omega | (simp only [Array.size_map]; omega))) (by first | assumption | omega | (dsimp only; omega)) (by first | rfl | simp)) ?_ | refine RL.e (Ef.app (k := 4) hS rfl rfl rfl (Src.pt (hS.get 5 rfl) (by first | exact Nat.le_of_ble_eq_true rfl | omega | (simp only [Array.size_map]; omega))) (by first | assumption | omega | (dsimp only; omega)) (by first | rfl | simp)) ?_ | refine RL.e (Ef.app (k := 4) hS rfl rfl rfl (Src.own hS 0 rfl) (by first | assumption | omega | (dsimp only; omega)) (by first | rfl | simp)) ?_ | refine RL.e (Ef.app (k := 4) hS rfl rfl rfl (Src.own hS 1 rfl) (by first | assumption | omega | (dsimp only; omega)) (by first | rfl | simp)) ?_ | refine RL.e (Ef.app (k := 4) hS rfl rfl rfl (Src.own hS 2 rfl) (by first | assumption | omega | (dsimp only; omega)) (by first | rfl | simp)) ?_ | refine RL.e (Ef.app (k := 4) hS rfl rfl rfl (Src.own hS 3 rfl) (by first | assumption | omega | (dsimp only; omega)) (by first | rfl | simp)) ?_ | refine RL.e (Ef.app (k := 4) hS rfl rfl rfl (Src.own hS 4 rfl) (by first | assumption | omega | (dsimp only; omega)) (by first | rfl | simp)) ?_ | refine RL.e (Ef.app (k := 4) hS rfl rfl rfl (Src.own hS 5 rfl) (by first | assumption | omega | (dsimp only; omega)) (by first | rfl | simp)) ?_
        intro s45 w hS
        simp only [List.set_cons_succ, List.drop_zero] at hS
        first | (obtain ⟨sp45, cp45, rfl⟩ := hS.ownForm 4 rfl)
        refine RL.q (Qt.as rfl) ?_
        refine RL.nil ?_
        refine RE.sqN ?_
        refine RC.region rfl ?_
        refine RL.q (Qt.mv rfl) ?_
        refine RL.q (Qt.as rfl) ?_
        refine RL.nil ?_
        refine RE.bkN ?_
        -- stops: next
        apply RE.lpN (((rest', ts ++ [x]), (meldF (looseF (looseF f nx.root) a) a nx.root).1, .slice sp45 ((ts.map BT.root).length + 1) cp45))
        case hI =>
          refine ⟨rfl, ?_, hgi', ?_⟩
          · dsimp only
            rw [er, ei]
            exact hS.pick [3, 4, 1, 2, 5] (by decide) rfl
          · dsimp only
            rw [List.length_append, List.length_singleton]; omega
        case hs => (repeat (first | exact Sub.nil | refine Sub.cons rfl ?_))
        case hm => exact hlt
      · skip
        have h2 : nx.root = -1 := Classical.not_not.1 (of_decide_eq_false h2)
        have eaf : gAfter f nx.root = -1 := if_pos h2
        have elo : gLoose f a nx.root = looseF f a := if_pos h2
        rw [eaf] at e3 haf
        rw [elo] at hbd hgi' e2
        have hr' : rest' = .nil := by
          rcases rest'.root_mem with ⟨_, e⟩ | e
          · exact e
          · have := hnn _ (hgi'.perm.mem_iff.1 (List.mem_append.2 (.inl e)))
            omega
        subst hr'
        refine RC.skip ?_
        refine RE.sqN ?_
        refine RC.seq ?_
        refine RC.region rfl ?_
        refine RL.q (Qt.ld rfl (by first | exact hS.at 0 rfl | exact hS.at 1 rfl | exact hS.at 2 rfl | exact hS.at 3 rfl | exact hS.at 4 rfl) (by first | exact hcn | rfl)) ?_
        refine RL.q (Qt.mv rfl) ?_
        -- stops: op call
        have hS := hS.tabShut 3 rfl hc
        try simp only [List.set_cons_zero, List.set_cons_succ] at hS
        refine RL.e (Ef.call hS (phLoose b bl n cap f root many a ha) rfl rfl Try.call144 [2, 3] [0, 1, 4] (by decide) rfl rfl) ?_
        rintro v38 w ⟨ps, ⟨rfl, rfl⟩, hS⟩
        refine RL.nil ?_
        refine RE.sqN ?_
        refine RC.seq ?_
        refine RC.region rfl ?_
        refine RL.q (Qt.mv rfl) ?_
        refine RL.q (Qt.ld rfl (by first | exact hS.at 0 rfl | exact hS.at 1 rfl | exact hS.at 2 rfl | exact hS.at 3 rfl | exact hS.at 4 rfl) (by first | exact hcn | rfl)) ?_
        refine RL.q (Qt.mv rfl) ?_
        refine RL.q (Qt.mv rfl) ?_
        -- stops: op call
        refine RL.e (Ef.call hS (phMeld b bl n cap _ root many a nx.root hbd (by omega) (by omega)) rfl rfl Try.call84 [0, 1] [2, 3, 4] (by decide) rfl rfl) ?_
        rintro v43 w ⟨ps, ⟨rfl, rfl⟩, hS⟩
        rw [e2]
        refine RL.e (Ef.bsl1 hS rfl) ?_
        rintro _ w ⟨b44, rfl, hS⟩
        try simp (disch := omega) only [cells_int'] at hS
        first | refine RL.e (Ef.app (k := 4) hS rfl rfl rfl (Src.pt (hS.get 0 rfl) (by first | exact Nat.le_of_ble_eq_true rfl | omega | (simp only [Array.size_map]; omega))) (by first | assumption | omega | (dsimp only; omega)) (by first | rfl | simp)) ?_ | refine RL.e (Ef.app (k := 4) hS rfl rfl rfl (Src.pt (hS.get 1 rfl) (by first | exact Nat.le_of_ble_eq_true rfl | omega | (simp only [Array.size_map]; omega))) (by first | assumption | omega | (dsimp only; omega)) (by first | rfl | simp)) ?_ | refine RL.e (Ef.app (k := 4) hS rfl rfl rfl (Src.pt (hS.get 2 rfl) (by first | exact Nat.le_of_ble_eq_true rfl | omega | (simp only [Array.size_map]; omega))) (by first | assumption | omega | (dsimp only; omega)) (by first | rfl | simp)) ?_ | refine RL.e (Ef.app (k := 4) hS rfl rfl rfl (Src.pt (hS.get 3 rfl) (by first | exact Nat.le_of_ble_eq_true rfl | omega | (simp only [Array.size_map]; omega))) (by first | assumption | omega | (dsimp only; omega)) (by first | rfl | simp)) ?_ | refine RL.e (Ef.app (k := 4) hS rfl rfl rfl (Src.pt (hS.get 4 rfl) (by first | exact Nat.le_of_ble_eq_true rfl | omega | (simp only [Array.size_map]; omega))) (by first | assumption | omega | (dsimp only; omega)) (by first | rfl | simp)) ?_ | refine RL.e (Ef.app (k := 4) hS rfl rfl rfl (Src.pt (hS.get 5 rfl) (by first | exact Nat.le_of_ble_eq_true rfl | omega | (simp only [Array.size_map]; omega))) (by first | assumption | omega | (dsimp only; omega)) (by first | rfl | simp)) ?_ | refine RL.e (Ef.app (k := 4) hS rfl rfl rfl (Src.own hS 0 rfl) (by first | assumption | omega | (dsimp only; omega)) (by first | rfl | simp)) ?_ | refine RL.e (Ef.app (k := 4) hS rfl rfl rfl (Src.own hS 1 rfl) (by first | assumption | omega | (dsimp only; omega)) (by first | rfl | simp)) ?_ | refine RL.e (Ef.app (k := 4) hS rfl rfl rfl (Src.own hS 2 rfl) (by first | assumption | omega | (dsimp only; omega)) (by first | rfl | simp)) ?_ | refine RL.e (Ef.app (k := 4) hS rfl rfl rfl (Src.own hS 3 rfl) (by first | assumption | omega | (dsimp only; omega)) (by first | rfl | simp)) ?_ | refine RL.e (Ef.app (k := 4) hS rfl rfl rfl (Src.own hS 4 rfl) (by first | assumption | omega | (dsimp only; omega)) (by first | rfl | simp)) ?_ | refine RL.e (Ef.app (k := 4) hS rfl rfl rfl (Src.own hS 5 rfl) (by first | assumption | omega | (dsimp only; omega)) (by first | rfl | simp)) ?_
        intro s45 w hS
        simp only [List.set_cons_succ, List.drop_zero] at hS
        first | (obtain ⟨sp45, cp45, rfl⟩ := hS.ownForm 4 rfl)
        refine RL.q (Qt.as rfl) ?_
        refine RL.nil ?_
        refine RE.sqN ?_
        refine RC.region rfl ?_
        refine RL.q (Qt.mv rfl) ?_
        refine RL.q (Qt.as rfl) ?_
        refine RL.nil ?_
        refine RE.bkN ?_
        -- stops: next
        apply RE.lpN (((.nil, ts ++ [x]), (meldF (looseF f a) a nx.root).1, .slice sp45 ((ts.map BT.root).length + 1) cp45))
        case hI =>
          refine ⟨rfl, ?_, hgi', ?_⟩
          · dsimp only
            rw [er, ei]
            exact hS.pick [3, 4, 1, 2, 5] (by decide) rfl
          · dsimp only
            show (ts ++ [x]).length + 0 ≤ _
            rw [List.length_append, List.length_singleton]; omega
        case hs => (repeat (first | exact Sub.nil | refine Sub.cons rfl ?_))
        case hm => exact hlt
end Go.Proofs

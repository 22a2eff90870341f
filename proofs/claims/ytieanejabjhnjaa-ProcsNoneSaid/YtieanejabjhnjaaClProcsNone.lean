/- ProcsNone, for every input: nil sets answer so; sizes that may not be; the arguments read as before. No condition. -/
import Derived.Test.YtieanejabjhnjaaMpf
import Derived.Maps.RangeRun
import Derived.Test.YtieanejabjhnjaaRows
/- One step of a range over a map with whole numbers as keys. No condition; nothing of any program stands here. -/
namespace Go.Gx
open Go Go.MapKept
variable {oo : World} {ent : Array MapEntry} {clock : Nat} {k : IntKind} {es : List (Int × Value)}
section
variable {P : Program} {N : Nat} {D : List Deferred} {S : World → Prop} {E : Env} {w : World} {dst : Option Nat} {ty : TypeId} {pos : String} {af : Array Edge} {g : Option (Nat × Bool)} {L : List HP}
variable {r : Nat} {x : Operand}
theorem Ef.nxt {b q j : Nat} {seen : Array Nat} {done : List Int} (hS : Sat oo w L) (hq : L[q]? = some (pt r (.map ent clock))) (hj : L[j]? = some (pt b (.mapIter (some r) clock seen clock))) (hx : ev E x = some (.pointer (some ⟨b, 0, none⟩)))
    (hi : MI ent clock k es) (hd : MIt ent k seen done) :
    Ef P N D E w ⟨dst, .next x false, ty, pos, af, g⟩ (fun u w' => (u = .tuple #[.bool false] ∧ (∀ i ∈ mkeys es, i ∈ done) ∧ Sat oo w' L) ∨
      ∃ (i : Int) (v : Value) (e : MapEntry), e ∈ ent.toList ∧ e.key = .int k i ∧ e.val = v ∧ (i, v) ∈ es ∧ i ∉ done ∧ u = .tuple #[.bool true, .int k i, v] ∧ MIt ent k (seen.push e.born) (i :: done) ∧ Sat oo w' (L.set j (pt b (.mapIter (some r) clock (seen.push e.born) clock)))) := Ef.of_run fun a ha => by
  have hw := hS.get q hq
  have hb := hS.get j hj
  rcases run_next_at (P := P) w ty b r clock clock seen ent clock hb hw (fun e he => hi.st.1 e he) (Nat.le_refl _) with ⟨h0, h1⟩ | ⟨e, he, w1, hw1, h1⟩
  · refine .inl ⟨_, _, by simp [execOp, ha.ev hx, h1], .inl ⟨rfl, fun i hmi => ?_, hS⟩⟩
    obtain ⟨p, hp, rfl⟩ := List.mem_map.1 hmi
    obtain ⟨m, hm, rfl⟩ := List.getElem_of_mem hp
    obtain ⟨e, g1, g2, _⟩ := hi.at' hm
    have hmem := List.mem_of_getElem? g1
    have hsn : seen.contains e.born = true := by
      cases hc : seen.contains e.born with
      | true => rfl
      | false =>
        exfalso
        have : e ∈ leftOf ent seen := by
          unfold leftOf
          rw [Array.mem_filter]
          exact ⟨by simpa using hmem, by simpa using hc⟩
        have h2 : leftOf ent seen = #[] := Array.eq_empty_of_size_eq_zero h0
        rw [h2] at this
        simp at this
    obtain ⟨i, hi1, hi2⟩ := (hd e hmem).1 hsn
    rw [g2] at hi2
    injection hi2 with _ hi2
    rw [hi2]; exact hi1
  · have hef : e ∈ ent.toList ∧ seen.contains e.born = false := by
      have : e ∈ leftOf ent seen := by simpa using he
      unfold leftOf at this
      rw [Array.mem_filter] at this
      exact ⟨by simpa using this.1, by simpa using this.2⟩
    obtain ⟨hef, hsf⟩ := hef
    obtain ⟨p, hp, g2, g3⟩ := hi.of hef
    have hnd : p.1 ∉ done := fun hm => by
      have := (hd e hef).2 ⟨p.1, hm, g2⟩
      rw [hsf] at this; cases this
    have hS1 : Sat oo w1 L := by
      rcases hw1 with rfl | rfl
      · exact hS
      · exact hS.drew
    have hb1 := hS1.get j hj
    have h2 := hS1.put j hj (.mapIter (some r) clock (seen.push e.born) clock) (w' := { w1 with heap := w1.heap.setIfInBounds b (.mapIter (some r) clock (seen.push e.born) clock) }) (heap_set hb1).1 (heap_set hb1).2 ⟨rfl, rfl, rfl⟩
    refine .inl ⟨.tuple #[.bool true, e.key, e.val], _, by simp only [execOp, ha.ev hx, h1, Sem.run_bind, Result.andThen_ok, Sem.run_pure]; rfl, .inr ⟨p.1, p.2, e, hef, g2, g3, hp, hnd, by rw [g2, g3], hd.push hi hef g2, h2⟩⟩
theorem Qt.entr {b : Nat} {seen : Array Nat} {e : MapEntry} {i : Int} {v : Value} (hx : ev E x = some (.pointer (some ⟨b, 0, none⟩))) (hw : ∀ w, S w → w.heap[b]? = some (.mapIter (some r) clock (seen.push e.born) clock) ∧ w.heap[r]? = some (.map ent clock))
    (hi : MI ent clock k es) (he : e ∈ ent.toList) (hk : e.key = .int k i) (hv : e.val = v) : Qt P S E ⟨dst, .entry x, ty, pos, af, g⟩ (.tuple #[.int k i, v]) := fun a ha w hS => by
  obtain ⟨h1, h2⟩ := hw w hS
  have := run_entry_at (P := P) w b r clock seen ent clock e h1 h2 he hi.st.2.1
  rw [hk, hv] at this
  simp [execOp, ha.ev hx, this]
end
end Go.Gx

/- Layer 11 itself: Fork. -/
namespace Go.Proofs
open Go Go.Gx
variable {oo : World}

theorem sub_len : ∀ {l m : List Int}, l.Nodup → (∀ x ∈ l, x ∈ m) → l.length ≤ m.length
  | [], _, _, _ => by simp
  | x :: t, m, hn, h => by
    obtain ⟨h1, h2⟩ := List.nodup_cons.1 hn
    have hx := h x (by simp)
    have := sub_len (m := m.erase x) h2 fun y hy => (List.mem_erase_of_ne (fun e => h1 (by rw [← e]; exact hy))).2 (h y (List.mem_cons_of_mem _ hy))
    rw [List.length_erase_of_mem hx] at this
    have := List.length_pos_of_mem hx
    rw [List.length_cons]; omega
/-- A copy of a map, as far as some keys have been. -/
structure Copied (es es' : List (Int × Value)) (done : List Int) : Prop where
  nodup : done.Nodup
  sub : ∀ i ∈ done, i ∈ mkeys es
  get : ∀ i, mget es' i = if i ∈ done then mget es i else none
  len : es'.length = done.length
theorem Copied.nil (es : List (Int × Value)) : Copied es [] [] := ⟨by simp, by simp, fun i => by rw [if_neg (by simp)]; rfl, rfl⟩
theorem Copied.more {es es' : List (Int × Value)} {done : List Int} (h : Copied es es' done) (hn : (mkeys es).Nodup) {i : Int} {v : Value} (hm : (i, v) ∈ es) (hd : i ∉ done) : Copied es (mset es' i v) (i :: done) ∧ done.length < es.length := by
  have hik : i ∈ mkeys es := List.mem_map.2 ⟨_, hm, rfl⟩
  have hsub : ∀ j ∈ i :: done, j ∈ mkeys es := fun j hj => by
    rcases List.mem_cons.1 hj with rfl | hj
    · exact hik
    · exact h.sub j hj
  have hnd : (i :: done).Nodup := List.nodup_cons.2 ⟨hd, h.nodup⟩
  have hl := sub_len hnd hsub
  have hkl : (mkeys es).length = es.length := List.length_map _
  rw [List.length_cons, hkl] at hl
  refine ⟨⟨hnd, hsub, fun j => ?_, ?_⟩, by omega⟩
  · rw [mget_mset, h.get]
    by_cases e : j = i
    · subst e
      rw [if_pos rfl, if_pos (by simp), mget_some hn hm]
    · rw [if_neg e]
      simp [e]
  · have hk : i ∉ mkeys es' := by rw [← mget_none, h.get, if_neg hd]
    rw [mset_len hk, h.len]; rfl
theorem Copied.all {L : List (List KItem)} {es es' : List (Int × Value)} {done : List Int} (h : Copied es es' done) (hn : (mkeys es).Nodup) (ha : AtOk L es) (hall : ∀ i ∈ mkeys es, i ∈ done) : AtOk L es' := by
  refine ⟨fun i => ?_, ?_⟩
  · rw [← ha.at', h.get]
    by_cases hi : i ∈ done
    · rw [if_pos hi]
    · rw [if_neg hi, eq_comm, mget_none]
      exact fun hm => hi (hall i hm)
  · have h1 := sub_len h.nodup h.sub
    have h2 := sub_len hn hall
    have hkl : (mkeys es).length = es.length := List.length_map _
    rw [h.len, ← ha.len]
    omega

set_option maxHeartbeats 4000000 in
theorem prFork (p : Value) (np nt : Nat) (queue B : Int) (L : List (List KItem)) : Ct Try.prog 34 #[p] [pO p np nt queue B L] (fun v ps => (∃ b, v = .pointer (some ⟨b, 0, none⟩)) ∧ ps = [pO v np nt queue B L, pO p np nt queue B L]) := by
  refine Ct.enter Try.func34 rfl (Nat.le_of_ble_eq_true rfl) ?_
  intro oo w R hS
  change RC _ _ _ _ _ _ [(0, _)] _
  obtain ⟨b, r, sp, cap, vs, es, rfl, hp, hv, ha, hnp, hnt, hS⟩ := pO_open hS
  obtain ⟨ent, clock, hmi, hS⟩ := hS.mapOpen 3 rfl
  have hlen := hp.len
  refine RC.seq ?_
  refine RC.region rfl ?_
  refine RL.q (Qt.as rfl) ?_
  refine RL.nil ?_
  refine RE.sqN ?_
  refine RC.seq ?_
  refine RC.seq ?_
  refine RC.region rfl ?_
  refine RL.q (Qt.mv rfl) ?_
  refine RL.q (Qt.eqlN rfl rfl) ?_
  refine RL.nil ?_
  refine RE.sqN ?_
  refine RC.condF rfl (rfl) ?_
  refine RC.skip ?_
  refine RE.sqN ?_
  refine RC.seq ?_
  refine RC.drawn 16 [0, 1, 2, 3, 4, 5, 6, 7, 8, 9, 10, 11, 12, 13, 14, 15] (fun w' => w'.heap[b]? = some (.cells #[.int .i64 np, .int .i64 nt, .int .i64 queue, .slice sp L.length cap, .map (some r)] 69 (0, 0))) (by kernel_rfl) (by kernel_rfl) ((by exact hS.drew.get 0 rfl)) (fun hh => ?_)
  replace hS := hS.drew
  refine RH.q hh (Calm.sq Calm.body) rfl (by kernel_rfl) (Qt.mv rfl) ?_
  refine RH.q hh (Calm.sq Calm.body) rfl (by kernel_rfl) (Qt.nil rfl) ?_
  refine RH.q hh (Calm.sq Calm.body) rfl (by kernel_rfl) (Qt.fld rfl) ?_
  refine RH.q hh (Calm.sq Calm.body) rfl (by kernel_rfl) (Qt.ld rfl (fun _ h => h) (by first  | rfl)) ?_
  refine RH.q hh (Calm.sq Calm.body) rfl (by kernel_rfl) (Qt.mv rfl) ?_
  refine RH.q hh (Calm.sq Calm.body) rfl (by kernel_rfl) (Qt.nil rfl) ?_
  refine RH.q hh (Calm.sq Calm.body) rfl (by kernel_rfl) (Qt.fld rfl) ?_
  refine RH.q hh (Calm.sq Calm.body) rfl (by kernel_rfl) (Qt.ld rfl (fun _ h => h) (by first  | rfl)) ?_
  refine RH.q hh (Calm.sq Calm.body) rfl (by kernel_rfl) (Qt.mv rfl) ?_
  refine RH.q hh (Calm.sq Calm.body) rfl (by kernel_rfl) (Qt.nil rfl) ?_
  refine RH.q hh (Calm.sq Calm.body) rfl (by kernel_rfl) (Qt.fld rfl) ?_
  refine RH.q hh (Calm.sq Calm.body) rfl (by kernel_rfl) (Qt.ld rfl (fun _ h => h) (by first  | rfl)) ?_
  refine RH.e hh rfl (by kernel_rfl) (Ef.mkm (k := .i64) hS) ?_
  rintro _ w ⟨r22, rfl, hS⟩
  refine ⟨(by exact hS.get 1 rfl), ?_⟩
  refine RH.q hh (Calm.sq Calm.body) rfl (by kernel_rfl) (Qt.bldV [.tmp 13, .tmp 17, .tmp 21, .const (Go.Value.slice none 0 0), .tmp 22] rfl rfl (by kernel_rfl)) ?_
  refine RH.e hh rfl (by kernel_rfl) (Ef.box hS rfl) ?_
  rintro _ w ⟨b24, rfl, hS⟩
  try simp (disch := omega) only [List.set_cons_zero, List.set_cons_succ, cells_agg'] at hS
  refine ⟨(by exact hS.get 2 rfl), ?_⟩
  refine RH.q hh (Calm.sq Calm.body) rfl (by kernel_rfl) (Qt.as rfl) ?_
  refine RH.done hh (by kernel_rfl) ?_
  refine RL.nil ?_
  refine RE.sqN ?_
  refine RC.seq ?_
  refine RC.seq ?_
  refine RC.region rfl ?_
  refine RL.q (Qt.mv rfl) ?_
  refine RL.q (Qt.nil rfl) ?_
  refine RL.q (Qt.fld rfl) ?_
  refine RL.q (Qt.ld rfl (by exact hS.at 2 rfl) (by first  | rfl)) ?_
  refine RL.e (Ef.rng hS 5 rfl rfl) ?_
  rintro _ w ⟨b29, rfl, hS⟩
  refine RL.nil ?_
  refine RE.sqN ?_
  refine RC.block ?_
  refine RC.loop (γ := Array Nat × List Int × List (Int × Value)) (fun g E w' => E = [(29, .pointer (some ⟨b29, 0, none⟩)), (3, .pointer (some ⟨b24, 0, none⟩)), (0, .pointer (some ⟨b, 0, none⟩))] ∧ (MIt ent .i64 g.1 g.2.1 ∧ Copied es g.2.2 g.2.1) ∧ Sat oo w' [pt b29 (.mapIter (some r) clock g.1 clock), pt b24 (.cells #[.int .i64 np, .int .i64 nt, .int .i64 queue, .slice none 0 0, .map (some r22)] 69 (0, 0)), mapP r22 .i64 g.2.2, pt b (.cells #[.int .i64 np, .int .i64 nt, .int .i64 queue, .slice sp L.length cap, .map (some r)] 69 (0, 0)), own (.slice sp L.length cap) 70 1 L.length vs, Objs (pF nt B) vs L, pt r (.map ent clock), R]) (fun g => es.length - g.2.1.length) (#[], [], []) _ (by (repeat (first | exact Sub.nil | refine Sub.cons rfl ?_))) ⟨rfl, ⟨MIt.nil, Copied.nil es⟩, hS⟩ ?_
  clear hS
  rintro ⟨seen, done, es'⟩ E w ⟨rfl, ⟨hd, hcp⟩, hS⟩
  dsimp only at hd hcp hS
  refine RC.seq ?_
  refine RC.region rfl ?_
  refine RL.e (Ef.nxt hS (q := 6) (j := 0) rfl rfl rfl hmi hd) ?_
  rintro v30 w (⟨rfl, hall, hS⟩ | ⟨i, v, e, he, hek, hev, hiv, hnd, rfl, hd', hS⟩)
  · skip
    refine RL.q (Qt.ext rfl rfl) ?_
    refine RL.nil ?_
    refine RE.sqN ?_
    refine RC.seq ?_
    have hac := hcp.all hmi.nodup ha hall
    have hS := hS.mapShut 6 rfl hmi
    have hS := (Sat.objNil (f := pF nt B) (hS.pick [1, 2, 3, 4, 5, 6, 7] (by decide) rfl)).nilOwn (T := 70) (sz := 1)
    refine RC.condF rfl (rfl) ?_
    refine RC.exit ?_
    refine RE.sqX ?_
    refine RE.lpX ?_
    refine RE.bkX ?_
    refine RE.sqN ?_
    refine RC.seq ?_
    refine RC.seq ?_
    refine RC.region rfl ?_
    refine RL.q (Qt.mv rfl) ?_
    refine RL.q (Qt.nil rfl) ?_
    refine RL.q (Qt.fld rfl) ?_
    refine RL.q (Qt.ld rfl (by exact hS.at 4 rfl) (by first  | rfl)) ?_
    refine RL.q (Qt.lenS rfl) ?_
    refine RL.q (Qt.mv rfl) ?_
    refine RL.nil ?_
    refine RE.sqN ?_
    refine RC.block ?_
    refine RC.loop (γ := Nat × Value × List Value) (fun g E w' => E = [(46, .int .i64 g.1), (45, .int .i64 L.length), (44, .slice sp L.length cap), (3, .pointer (some ⟨b24, 0, none⟩))] ∧ (g.1 ≤ L.length ∧ g.2.2.length = g.1) ∧ Sat oo w' [own g.2.1 70 1 g.1 g.2.2, Objs (pF nt B) g.2.2 (L.take g.1), pt b24 (.cells #[.int .i64 np, .int .i64 nt, .int .i64 queue, g.2.1, .map (some r22)] 69 (0, 0)), mapP r22 .i64 es', pt b (.cells #[.int .i64 np, .int .i64 nt, .int .i64 queue, .slice sp L.length cap, .map (some r)] 69 (0, 0)), own (.slice sp L.length cap) 70 1 L.length vs, Objs (pF nt B) vs L, mapP r .i64 es, R]) (fun g => L.length - g.1) (0, .slice none 0 0, []) _ (by (repeat (first | exact Sub.nil | refine Sub.cons rfl ?_))) ⟨rfl, ⟨by dsimp only; omega, rfl⟩, hS⟩ ?_
    clear hS
    rintro ⟨k, v, us⟩ E w ⟨rfl, ⟨hk, huk⟩, hS⟩
    dsimp only at hk huk hS
    refine RC.seq ?_
    refine RC.region rfl ?_
    refine RL.q (Qt.lss rfl rfl) ?_
    refine RL.nil ?_
    refine RE.sqN ?_
    refine RC.seq ?_
    refine RC.cond rfl (fun h => ?_) (fun h => ?_)
    · skip
      have hlt : k < L.length := by simpa using h
      have hltv : k < vs.length := by omega
      obtain ⟨spd, cpd, rfl⟩ := hS.ownForm 0 rfl
      obtain ⟨bs, cap', c, hv', hc1, hc2, hc3, hc4, hS⟩ := hS.ownPos 5 rfl (by omega)
      cases hv'
      have hS := Sat.objOut (f := pF nt B) hv hlt (hS.pick [6, 0, 1, 2, 3, 4, 5, 7, 8] (by decide) rfl)
      refine RC.skip ?_
      refine RE.sqN ?_
      refine RC.seq ?_
      refine RC.block ?_
      refine RC.seq ?_
      refine RC.region rfl ?_
      refine RL.q (Qt.ixS rfl rfl (by omega) (by omega)) ?_
      refine RL.q (Qt.ld rfl (by exact hS.at 7 rfl) (by exact ptr_cell hc4 hltv (by omega))) ?_
      refine RL.q (Qt.as rfl) ?_
      refine RL.nil ?_
      refine RE.sqN ?_
      refine RC.drawn 11 [0, 1, 2, 3, 4, 5, 6, 7, 8, 9, 10] (fun w' => w'.heap[b24]? = some (.cells #[.int .i64 np, .int .i64 nt, .int .i64 queue, .slice spd k cpd, .map (some r22)] 69 (0, 0))) (by kernel_rfl) (by kernel_rfl) (hS.drew.get 4 rfl) (fun hh => ?_)
      replace hS := hS.drew
      refine RH.q hh (Calm.bk (Calm.sq (Calm.lp (Calm.bk (Calm.sq Calm.body))))) rfl (by kernel_rfl) (Qt.mv rfl) ?_
      refine RH.q hh (Calm.bk (Calm.sq (Calm.lp (Calm.bk (Calm.sq Calm.body))))) rfl (by kernel_rfl) (Qt.mv rfl) ?_
      refine RH.q hh (Calm.bk (Calm.sq (Calm.lp (Calm.bk (Calm.sq Calm.body))))) rfl (by kernel_rfl) (Qt.nil rfl) ?_
      refine RH.q hh (Calm.bk (Calm.sq (Calm.lp (Calm.bk (Calm.sq Calm.body))))) rfl (by kernel_rfl) (Qt.fld rfl) ?_
      refine RH.q hh (Calm.bk (Calm.sq (Calm.lp (Calm.bk (Calm.sq Calm.body))))) rfl (by kernel_rfl) (Qt.ld rfl (fun _ h => h) (by rfl)) ?_
      refine RH.q hh (Calm.bk (Calm.sq (Calm.lp (Calm.bk (Calm.sq Calm.body))))) rfl (by kernel_rfl) (Qt.mv rfl) ?_
      refine RH.e hh rfl (by kernel_rfl) (Ef.call hS (rdFork vs[k] nt nt B L[k]) rfl rfl Try.call56 [0] [1, 2, 3, 4, 5, 6, 7, 8, 9] (by decide) rfl rfl) ?_
      rintro v56 w ⟨ps, ⟨⟨bn, rfl⟩, rfl⟩, hS⟩
      refine ⟨(by exact hS.get 5 rfl), ?_⟩
      refine RH.e hh rfl (by kernel_rfl) (Ef.bsl1 hS rfl) ?_
      rintro _ w ⟨b57, rfl, hS⟩
      try simp (disch := omega) only [cells_ptr'] at hS
      refine ⟨(by exact hS.get 6 rfl), ?_⟩
      refine RH.e hh rfl (by kernel_rfl) (Ef.app (k := 4) hS rfl rfl rfl (Src.pt (hS.get 0 rfl) (Nat.le_of_ble_eq_true rfl)) (by omega) (by rfl)) ?_
      intro s58 w hS
      simp only [List.set_cons_succ, List.drop_zero] at hS
      (obtain ⟨sp58, cp58, rfl⟩ := hS.ownForm 4 rfl)
      refine ⟨(by exact hS.get 6 rfl), ?_⟩
      refine RH.q hh (Calm.bk (Calm.sq (Calm.lp (Calm.bk (Calm.sq Calm.body))))) rfl (by kernel_rfl) (Qt.nil rfl) ?_
      refine RH.q hh (Calm.bk (Calm.sq (Calm.lp (Calm.bk (Calm.sq Calm.body))))) rfl (by kernel_rfl) (Qt.fld rfl) ?_
      refine RH.done hh (by kernel_rfl) ?_
      refine RL.e0 (Ef.st hS 6 rfl rfl rfl (by rfl) (by rfl) (by exact Nat.le_of_ble_eq_true rfl)) ?_
      intro _ w hS
      simp (disch := omega) only [List.set_cons_zero, List.set_cons_succ, cells_slice', Nat.zero_add, wr, List.setIfInBounds_toArray] at hS
      refine RL.nil ?_
      refine RE.bkN ?_
      refine RE.sqN ?_
      refine RC.region rfl ?_
      refine RL.q ((by exact Qt.addI rfl rfl (by dsimp only [inK]; omega))) ?_
      refine RL.q (Qt.mv rfl) ?_
      refine RL.nil ?_
      have h1 := Sat.objSnoc (f := pF nt B) (vs := us) (xs := L.take k) (v := .pointer (some ⟨bn, 0, none⟩)) (y := L[k]) (by simp; omega) (hS.pick [5, 1, 2, 3, 4, 6, 7, 8, 9, 10, 11] (by decide) rfl)
      rw [← List.take_succ_eq_append_getElem hlt] at h1
      have h2 := Sat.objIn (f := pF nt B) hv hlt (y := L[k]) (h1.pick [1, 2, 0, 3, 4, 5, 6, 7, 8, 9] (by decide) rfl)
      rw [set_same hlt] at h2
      have h3 := (h2.pick [2, 1, 3, 4, 5, 6, 0, 7, 8] (by decide) rfl).ownMk (cap := cap) (n := L.length) (sz := 1) (cs := vs) 5 rfl hc1 hc2 hc3 hc4
      apply RE.lpN ((k + 1, .slice sp58 (k + 1) cp58, us ++ [.pointer (some ⟨bn, 0, none⟩)]))
      case hI => exact ⟨rfl, ⟨hlt, by simp [huk]⟩, h3⟩
      case hs => (repeat (first | exact Sub.nil | refine Sub.cons rfl ?_))
      case hm =>
        show L.length - (k + 1) < L.length - k
        omega
    · refine RC.exit ?_
      refine RE.sqX ?_
      refine RE.lpX ?_
      refine RE.bkX ?_
      refine RE.sqN ?_
      refine RC.seq ?_
      refine RC.region rfl ?_
      refine RL.q (Qt.mv rfl) ?_
      refine RL.q (Qt.as rfl) ?_
      refine RL.nil ?_
      refine RE.sqN ?_
      refine RC.ret ?_
      have hge : k = L.length := by
        have : ¬ k < L.length := by simpa using h
        omega
      subst hge
      rw [List.take_length] at hS
      have h1 := pO_shut (vs := us) hp huk hac hnp hnt (hS.pick [2, 0, 1, 3, 4, 5, 6, 7, 8] (by decide) rfl)
      have h2 := pO_shut (vs := vs) hp hv ha hnp hnt (h1.pick [1, 2, 3, 4, 0, 5] (by decide) rfl)
      exact RE.retB rfl ⟨⟨_, rfl⟩, rfl⟩ h2.swap
  · skip
    refine RL.q (Qt.ext rfl rfl) ?_
    refine RL.nil ?_
    refine RE.sqN ?_
    refine RC.seq ?_
    refine RC.condT rfl (rfl) ?_
    refine RC.skip ?_
    refine RE.sqN ?_
    refine RC.block ?_
    refine RC.seq ?_
    refine RC.region rfl ?_
    refine RL.q (Qt.entr (r := r) (b := b29) (seen := seen) (e := e) rfl (fun w h => ⟨hS.at 0 rfl w h, hS.at 6 rfl w h⟩) hmi he hek hev) ?_
    refine RL.q (Qt.ext rfl rfl) ?_
    refine RL.q (Qt.ext rfl rfl) ?_
    refine RL.q (Qt.as rfl) ?_
    refine RL.q (Qt.as rfl) ?_
    refine RL.nil ?_
    refine RE.sqN ?_
    refine RC.region rfl ?_
    refine RL.q (Qt.mv rfl) ?_
    refine RL.q (Qt.nil rfl) ?_
    refine RL.q (Qt.fld rfl) ?_
    refine RL.q (Qt.ld rfl (by exact hS.at 1 rfl) (by first  | rfl)) ?_
    refine RL.q (Qt.mv rfl) ?_
    refine RL.q (Qt.mv rfl) ?_
    refine RL.e0 (Ef.mup hS 2 rfl rfl rfl rfl) ?_
    intro _ w hS
    simp only [List.set_cons_zero, List.set_cons_succ] at hS
    refine RL.nil ?_
    refine RE.bkN ?_
    obtain ⟨hc1, hc2⟩ := hcp.more hmi.nodup hiv hnd
    apply RE.lpN ((seen.push e.born, i :: done, mset es' i v))
    case hI => exact ⟨rfl, ⟨hd', hc1⟩, hS⟩
    case hs => (repeat (first | exact Sub.nil | refine Sub.cons rfl ?_))
    case hm =>
      show es.length - (i :: done).length < es.length - done.length
      rw [List.length_cons]; omega
end Go.Proofs

/- Nil sets of layer 11, sizes that may not be; the law ProcsNone answers true. -/
namespace Go.Proofs
open Go Go.Gx
variable {oo : World}

theorem prMayN (id : Int) (r t : Bool) : Ct Try.prog 37 #[.pointer none, .int .i64 id, .bool r, .bool t] [] (fun v ps => v = .int .i64 1 ∧ ps = []) := by
  refine Ct.enter Try.func37 rfl (Nat.le_of_ble_eq_true rfl) ?_
  intro oo w R hS
  change RC _ _ _ _ _ _ [(0, _), (1, _), (2, _), (3, _)] _
  refine RC.seq ?_
  refine RC.region rfl ?_
  refine RL.q (Qt.as rfl) ?_
  refine RL.nil ?_
  refine RE.sqN ?_
  refine RC.seq ?_
  refine RC.block ?_
  refine RC.seq ?_
  refine RC.region rfl ?_
  refine RL.q (Qt.mv rfl) ?_
  refine RL.q (Qt.eqlN rfl rfl) ?_
  refine RL.q (Qt.as rfl) ?_
  refine RL.nil ?_
  refine RE.sqN ?_
  refine RC.condT rfl (rfl) ?_
  refine RC.seq ?_
  refine RC.region rfl ?_
  refine RL.q (Qt.as rfl) ?_
  refine RL.nil ?_
  refine RE.sqN ?_
  refine RC.ret ?_
  refine RE.bkR ?_
  refine RE.sqR ?_
  exact RE.retB rfl ⟨rfl, rfl⟩ hS
theorem prIsN (proc : Int) : Ct Try.prog 38 #[.pointer none, .int .i64 proc] [] (fun v ps => v = .bool false ∧ ps = []) := by
  refine Ct.enter Try.func38 rfl (Nat.le_of_ble_eq_true rfl) ?_
  intro oo w R hS
  change RC _ _ _ _ _ _ [(0, _), (1, _)] _
  refine RC.seq ?_
  refine RC.region rfl ?_
  refine RL.q (Qt.as rfl) ?_
  refine RL.nil ?_
  refine RE.sqN ?_
  refine RC.seq ?_
  refine RC.region rfl ?_
  refine RL.q (Qt.mv rfl) ?_
  refine RL.q (Qt.neqN rfl rfl) ?_
  refine RL.q (Qt.mv rfl) ?_
  refine RL.s (Skips.guard rfl rfl rfl (rfl)) ?_
  refine RL.s (Skips.guard rfl rfl rfl (rfl)) ?_
  refine RL.q ((by exact Qt.pickF rfl rfl rfl)) ?_
  refine RL.q (Qt.mv rfl) ?_
  refine RL.s (Skips.guard rfl rfl rfl (rfl)) ?_
  refine RL.s (Skips.guard rfl rfl rfl (rfl)) ?_
  refine RL.s (Skips.guard rfl rfl rfl (rfl)) ?_
  refine RL.s (Skips.guard rfl rfl rfl (rfl)) ?_
  refine RL.s (Skips.guard rfl rfl rfl (rfl)) ?_
  refine RL.s (Skips.guard rfl rfl rfl (rfl)) ?_
  refine RL.q ((by exact Qt.pickF rfl rfl rfl)) ?_
  refine RL.q (Qt.as rfl) ?_
  refine RL.nil ?_
  refine RE.sqN ?_
  refine RC.ret ?_
  exact RE.retB rfl ⟨rfl, rfl⟩ hS
theorem prPutN (proc id : Int) (k : KKey) : Ct Try.prog 15 #[.pointer none, .int .i64 proc, .int .i64 id, .agg k.cells.toArray] [] (fun v ps => v = .int .i64 1 ∧ ps = []) := by
  refine Ct.enter Try.func15 rfl (Nat.le_of_ble_eq_true rfl) ?_
  intro oo w R hS
  change RC _ _ _ _ _ _ [(0, _), (1, _), (2, _), (3, _)] _
  have hkx : k.cells.toArray.extract 0 (0 + 3) = k.cells.toArray := rfl
  refine RC.seq ?_
  refine RC.region rfl ?_
  refine RL.e (Ef.box hS rfl) ?_
  rintro _ w ⟨b7, rfl, hS⟩
  try simp (disch := omega) only [cells_agg'] at hS
  refine RL.q (Qt.as rfl) ?_
  refine RL.nil ?_
  refine RE.sqN ?_
  refine RC.seq ?_
  refine RC.seq ?_
  refine RC.region rfl ?_
  refine RL.q (Qt.mv rfl) ?_
  refine RL.q (Qt.mv rfl) ?_
  refine RL.q (Qt.mv rfl) ?_
  refine RL.q (Qt.mv rfl) ?_
  refine RL.e (Ef.call hS (prIsN proc) rfl rfl Try.call38 [] [0, 1] (by decide) rfl rfl) ?_
  rintro v14 w ⟨ps, ⟨rfl, rfl⟩, hS⟩
  try rw [List.nil_append] at hS
  refine RL.q (Qt.mv rfl) ?_
  refine RL.s (Skips.guard rfl rfl rfl (rfl)) ?_
  refine RL.s (Skips.guard rfl rfl rfl (rfl)) ?_
  refine RL.q ((by exact Qt.pickF rfl rfl rfl)) ?_
  refine RL.e (Ef.call hS (prMayN id false false) rfl rfl Try.call37 [] [0, 1] (by decide) rfl rfl) ?_
  rintro v19 w ⟨ps, ⟨rfl, rfl⟩, hS⟩
  try rw [List.nil_append] at hS
  refine RL.q (Qt.as rfl) ?_
  refine RL.nil ?_
  refine RE.sqN ?_
  refine RC.seq ?_
  refine RC.region rfl ?_
  refine RL.q (Qt.mv rfl) ?_
  refine RL.q (Qt.neq rfl rfl) ?_
  refine RL.nil ?_
  refine RE.sqN ?_
  refine RC.condT rfl (rfl) ?_
  refine RC.seq ?_
  refine RC.region rfl ?_
  refine RL.q (Qt.mv rfl) ?_
  refine RL.q (Qt.as rfl) ?_
  refine RL.nil ?_
  refine RE.sqN ?_
  refine RC.ret ?_
  refine RE.sqR ?_
  exact RE.retB rfl ⟨rfl, rfl⟩ (hS.pick [1] (by decide) rfl)
theorem prChangeN (id : Int) (k : KKey) : Ct Try.prog 32 #[.pointer none, .int .i64 id, .agg k.cells.toArray] [] (fun v ps => v = .int .i64 1 ∧ ps = []) := by
  refine Ct.enter Try.func32 rfl (Nat.le_of_ble_eq_true rfl) ?_
  intro oo w R hS
  change RC _ _ _ _ _ _ [(0, _), (1, _), (2, _)] _
  have hkx : k.cells.toArray.extract 0 (0 + 3) = k.cells.toArray := rfl
  refine RC.seq ?_
  refine RC.region rfl ?_
  refine RL.e (Ef.box hS rfl) ?_
  rintro _ w ⟨b5, rfl, hS⟩
  try simp (disch := omega) only [cells_agg'] at hS
  refine RL.q (Qt.as rfl) ?_
  refine RL.nil ?_
  refine RE.sqN ?_
  refine RC.seq ?_
  refine RC.seq ?_
  refine RC.region rfl ?_
  refine RL.q (Qt.mv rfl) ?_
  refine RL.q (Qt.mv rfl) ?_
  refine RL.q (Qt.ldA rfl (by exact hS.at 0 rfl) (by exact hkx) (by exact Nat.le_of_ble_eq_true rfl)) ?_
  refine RL.e (Ef.call hS (kyRight k) rfl rfl Try.call39 [] [0, 1] (by decide) rfl rfl) ?_
  rintro v11 w ⟨ps, ⟨rfl, rfl⟩, hS⟩
  try rw [List.nil_append] at hS
  refine RL.e (Ef.call hS (prMayN id (kRight k) true) rfl rfl Try.call37 [] [0, 1] (by decide) rfl rfl) ?_
  rintro v12 w ⟨ps, ⟨rfl, rfl⟩, hS⟩
  try rw [List.nil_append] at hS
  refine RL.q (Qt.as rfl) ?_
  refine RL.nil ?_
  refine RE.sqN ?_
  refine RC.seq ?_
  refine RC.region rfl ?_
  refine RL.q (Qt.mv rfl) ?_
  refine RL.q (Qt.neq rfl rfl) ?_
  refine RL.nil ?_
  refine RE.sqN ?_
  refine RC.condT rfl (rfl) ?_
  refine RC.seq ?_
  refine RC.region rfl ?_
  refine RL.q (Qt.mv rfl) ?_
  refine RL.q (Qt.as rfl) ?_
  refine RL.nil ?_
  refine RE.sqN ?_
  refine RC.ret ?_
  refine RE.sqR ?_
  exact RE.retB rfl ⟨rfl, rfl⟩ (hS.pick [1] (by decide) rfl)
theorem prRemoveN (id : Int) : Ct Try.prog 33 #[.pointer none, .int .i64 id] [] (fun v ps => v = .int .i64 1 ∧ ps = []) := by
  refine Ct.enter Try.func33 rfl (Nat.le_of_ble_eq_true rfl) ?_
  intro oo w R hS
  change RC _ _ _ _ _ _ [(0, _), (1, _)] _
  refine RC.seq ?_
  refine RC.region rfl ?_
  refine RL.q (Qt.as rfl) ?_
  refine RL.nil ?_
  refine RE.sqN ?_
  refine RC.seq ?_
  refine RC.seq ?_
  refine RC.region rfl ?_
  refine RL.q (Qt.mv rfl) ?_
  refine RL.q (Qt.mv rfl) ?_
  refine RL.e (Ef.call hS (prMayN id true true) rfl rfl Try.call37 [] [0] (by decide) rfl rfl) ?_
  rintro v9 w ⟨ps, ⟨rfl, rfl⟩, hS⟩
  try rw [List.nil_append] at hS
  refine RL.q (Qt.as rfl) ?_
  refine RL.nil ?_
  refine RE.sqN ?_
  refine RC.seq ?_
  refine RC.region rfl ?_
  refine RL.q (Qt.mv rfl) ?_
  refine RL.q (Qt.neq rfl rfl) ?_
  refine RL.nil ?_
  refine RE.sqN ?_
  refine RC.condT rfl (rfl) ?_
  refine RC.seq ?_
  refine RC.region rfl ?_
  refine RL.q (Qt.mv rfl) ?_
  refine RL.q (Qt.as rfl) ?_
  refine RL.nil ?_
  refine RE.sqN ?_
  refine RC.ret ?_
  refine RE.sqR ?_
  exact RE.retB rfl ⟨rfl, rfl⟩ hS
theorem prBestN (proc draw : Int) : Ct Try.prog 18 #[.pointer none, .int .i64 proc, .int .u64 draw] [] (fun v ps => v = .tuple #[.int .i64 0, .agg KKey.none.cells.toArray, .int .i64 0, .bool false] ∧ ps = []) := by
  refine Ct.enter Try.func18 rfl (Nat.le_of_ble_eq_true rfl) ?_
  intro oo w R hS
  change RC _ _ _ _ _ _ [(0, _), (1, _), (2, _)] _
  refine RC.seq ?_
  refine RC.region rfl ?_
  refine RL.e (Ef.box hS rfl) ?_
  rintro _ w ⟨b3, rfl, hS⟩
  try simp (disch := omega) only [cells_ptr'] at hS
  refine RL.e (Ef.alloc hS) ?_
  rintro _ w ⟨b6, rfl, hS⟩
  try simp (disch := omega) only [cells_int'] at hS
  refine RL.e (Ef.alloc hS) ?_
  rintro _ w ⟨b7, rfl, hS⟩
  try simp (disch := omega) only [cells_agg'] at hS
  refine RL.e (Ef.alloc hS) ?_
  rintro _ w ⟨b8, rfl, hS⟩
  try simp (disch := omega) only [cells_int'] at hS
  refine RL.e (Ef.alloc hS) ?_
  rintro _ w ⟨b9, rfl, hS⟩
  try simp (disch := omega) only [cells_bool'] at hS
  refine RL.nil ?_
  refine RE.sqN ?_
  refine RC.scope ?_
  refine RC.seq ?_
  refine RC.seq ?_
  refine RC.region rfl ?_
  refine RL.q (Qt.ld rfl (by exact hS.at 4 rfl) (by first  | rfl)) ?_
  refine RL.q (Qt.mv rfl) ?_
  refine RL.e (Ef.call hS (prIsN proc) rfl rfl Try.call38 [] [0, 1, 2, 3, 4, 5] (by decide) rfl rfl) ?_
  rintro v16 w ⟨ps, ⟨rfl, rfl⟩, hS⟩
  try rw [List.nil_append] at hS
  refine RL.q (Qt.not rfl) ?_
  refine RL.nil ?_
  refine RE.sqN ?_
  refine RC.condT rfl (rfl) ?_
  refine RC.seq ?_
  refine RC.region rfl ?_
  refine RL.q (Qt.bldV [.const (Go.Value.bool false), .const (Go.Value.int Go.IntKind.u64 0), .const (Go.Value.int Go.IntKind.u8 0)] rfl rfl (by kernel_rfl)) ?_
  refine RL.e0 (Ef.st hS 3 rfl rfl rfl (by rfl) (by rfl) (by exact Nat.le_of_ble_eq_true rfl)) ?_
  intro _ w hS
  simp (disch := omega) only [List.set_cons_zero, List.set_cons_succ, cells_int', wr, List.setIfInBounds_toArray] at hS
  refine RL.e0 (Ef.st hS 2 rfl rfl rfl (by rfl) (by rfl) (by exact Nat.le_of_ble_eq_true rfl)) ?_
  intro _ w hS
  simp (disch := omega) only [List.set_cons_zero, List.set_cons_succ, cells_agg', Nat.zero_add, wr, List.setIfInBounds_toArray] at hS
  refine RL.e0 (Ef.st hS 1 rfl rfl rfl (by rfl) (by rfl) (by exact Nat.le_of_ble_eq_true rfl)) ?_
  intro _ w hS
  simp (disch := omega) only [List.set_cons_zero, List.set_cons_succ, cells_int', wr, List.setIfInBounds_toArray] at hS
  refine RL.e0 (Ef.st hS 0 rfl rfl rfl (by rfl) (by rfl) (by exact Nat.le_of_ble_eq_true rfl)) ?_
  intro _ w hS
  simp (disch := omega) only [List.set_cons_zero, cells_bool', wr, List.setIfInBounds_toArray] at hS
  refine RL.nil ?_
  refine RE.sqN ?_
  refine RC.ret ?_
  refine RE.sqR ?_
  refine RE.scR ?_
  exact RE.retX (vs := [.int .i64 0, .agg KKey.none.cells.toArray, .int .i64 0, .bool false]) (by repeat (first | exact ResX.nil | refine ResX.tmp rfl ?_ | refine ResX.one (by infer_instance) rfl rfl (by first | exact hS.get 0 rfl | exact hS.get 1 rfl | exact hS.get 2 rfl | exact hS.get 3 rfl | exact hS.get 4 rfl | exact hS.get 5 rfl | exact hS.get 6 rfl | exact hS.get 7 rfl | exact hS.get 8 rfl | exact hS.get 9 rfl | exact hS.get 10 rfl | exact hS.get 11 rfl) rfl ?_ | refine ResX.cell (by infer_instance) rfl rfl (by exact hS.get 2 rfl) rfl (Nat.le_of_ble_eq_true rfl) ?_)) ⟨rfl, rfl⟩ (hS.pick [5] (by decide) rfl)
theorem prTakeN (proc draw : Int) : Ct Try.prog 19 #[.pointer none, .int .i64 proc, .int .u64 draw] [] (fun v ps => v = .tuple #[.int .i64 0, .agg KKey.none.cells.toArray, .int .i64 0, .bool false] ∧ ps = []) := by
  refine Ct.enter Try.func19 rfl (Nat.le_of_ble_eq_true rfl) ?_
  intro oo w R hS
  change RC _ _ _ _ _ _ [(0, _), (1, _), (2, _)] _
  refine RC.seq ?_
  refine RC.region rfl ?_
  refine RL.q (Qt.as rfl) ?_
  refine RL.e (Ef.alloc hS) ?_
  rintro _ w ⟨b7, rfl, hS⟩
  try simp (disch := omega) only [cells_agg'] at hS
  refine RL.q (Qt.as rfl) ?_
  refine RL.q (Qt.as rfl) ?_
  refine RL.nil ?_
  refine RE.sqN ?_
  refine RC.seq ?_
  refine RC.region rfl ?_
  refine RL.q (Qt.mv rfl) ?_
  refine RL.q (Qt.mv rfl) ?_
  refine RL.q (Qt.mv rfl) ?_
  refine RL.e (Ef.call hS (prBestN proc draw) rfl rfl Try.call18 [] [0, 1] (by decide) rfl rfl) ?_
  rintro v14 w ⟨ps, ⟨rfl, rfl⟩, hS⟩
  try rw [List.nil_append] at hS
  refine RL.q (Qt.mv rfl) ?_
  refine RL.q (Qt.ext rfl rfl) ?_
  refine RL.q (Qt.ext rfl rfl) ?_
  refine RL.q (Qt.ext rfl rfl) ?_
  refine RL.q (Qt.ext rfl rfl) ?_
  refine RL.q (Qt.as rfl) ?_
  refine RL.e0 (Ef.st hS 0 rfl rfl rfl (by rfl) (by rfl) (by exact Nat.le_of_ble_eq_true rfl)) ?_
  intro _ w hS
  simp (disch := omega) only [List.set_cons_zero, cells_agg'] at hS
  refine RL.q (Qt.as rfl) ?_
  refine RL.q (Qt.as rfl) ?_
  refine RL.nil ?_
  refine RE.sqN ?_
  refine RC.seq ?_
  refine RC.seq ?_
  refine RC.region rfl ?_
  refine RL.q (Qt.mv rfl) ?_
  refine RL.nil ?_
  refine RE.sqN ?_
  refine RC.condF rfl (rfl) ?_
  refine RC.skip ?_
  refine RE.sqN ?_
  refine RC.seq ?_
  refine RC.drawn 8 [1, 0, 4, 2, 3, 5, 6, 7] (fun w' => w'.heap[b7]? = some (.cells (wr #[.bool false, .int .u64 0, .int .u8 0] 0 KKey.none.cells) 31 (0, 0))) (by kernel_rfl) (by kernel_rfl) ((by exact hS.drew.get 0 rfl)) (fun hh => ?_)
  replace hS := hS.drew
  refine RH.q hh (Calm.sq Calm.body) rfl (by kernel_rfl) (Qt.ldA rfl (fun _ h => h) (by first  | rfl) (by exact Nat.le_of_ble_eq_true rfl)) ?_
  refine RH.q hh (Calm.sq Calm.body) rfl (by kernel_rfl) (Qt.mv rfl) ?_
  refine RH.q hh (Calm.sq Calm.body) rfl (by kernel_rfl) (Qt.as rfl) ?_
  refine RH.q hh (Calm.sq Calm.body) rfl (by kernel_rfl) (Qt.mv rfl) ?_
  refine RH.q hh (Calm.sq Calm.body) rfl (by kernel_rfl) (Qt.mv rfl) ?_
  refine RH.e0 hh rfl (by kernel_rfl) (Ef.st hS 0 rfl rfl rfl (by rfl) (by rfl) (by exact Nat.le_of_ble_eq_true rfl)) ?_
  intro _ w hS
  simp (disch := omega) only [List.set_cons_zero, cells_agg', Nat.zero_add] at hS
  refine ⟨(by exact hS.get 0 rfl), ?_⟩
  refine RH.q hh (Calm.sq Calm.body) rfl (by kernel_rfl) (Qt.as rfl) ?_
  refine RH.q hh (Calm.sq Calm.body) rfl (by kernel_rfl) (Qt.as rfl) ?_
  refine RH.done hh (by kernel_rfl) ?_
  refine RL.nil ?_
  refine RE.sqN ?_
  refine RC.ret ?_
  exact RE.retX (vs := [.int .i64 0, .agg KKey.none.cells.toArray, .int .i64 0, .bool false]) (by repeat (first | exact ResX.nil | refine ResX.tmp rfl ?_ | refine ResX.one (by infer_instance) rfl rfl (by exact hS.get 0 rfl) rfl ?_ | refine ResX.cell (by infer_instance) rfl rfl (by exact hS.get 0 rfl) rfl (Nat.le_of_ble_eq_true rfl) ?_)) ⟨rfl, rfl⟩ (hS.pick [1] (by decide) rfl)
theorem prWhereN (id : Int) : Ct Try.prog 24 #[.pointer none, .int .i64 id] [] (fun v ps => v = .tuple #[.int .i64 0, .bool false] ∧ ps = []) := by
  refine Ct.enter Try.func24 rfl (Nat.le_of_ble_eq_true rfl) ?_
  intro oo w R hS
  change RC _ _ _ _ _ _ [(0, _), (1, _)] _
  refine RC.seq ?_
  refine RC.region rfl ?_
  refine RL.q (Qt.as rfl) ?_
  refine RL.q (Qt.as rfl) ?_
  refine RL.nil ?_
  refine RE.sqN ?_
  refine RC.seq ?_
  refine RC.seq ?_
  refine RC.region rfl ?_
  refine RL.q (Qt.mv rfl) ?_
  refine RL.q (Qt.eqlN rfl rfl) ?_
  refine RL.nil ?_
  refine RE.sqN ?_
  refine RC.condT rfl (rfl) ?_
  refine RC.seq ?_
  refine RC.region rfl ?_
  refine RL.q (Qt.as rfl) ?_
  refine RL.q (Qt.as rfl) ?_
  refine RL.nil ?_
  refine RE.sqN ?_
  refine RC.ret ?_
  refine RE.sqR ?_
  exact RE.retB rfl ⟨rfl, rfl⟩ hS
theorem prLenN : Ct Try.prog 21 #[.pointer none] [] (fun v ps => v = .int .i64 0 ∧ ps = []) := by
  refine Ct.enter Try.func21 rfl (Nat.le_of_ble_eq_true rfl) ?_
  intro oo w R hS
  change RC _ _ _ _ _ _ [(0, _)] _
  refine RC.seq ?_
  refine RC.region rfl ?_
  refine RL.q (Qt.as rfl) ?_
  refine RL.nil ?_
  refine RE.sqN ?_
  refine RC.seq ?_
  refine RC.seq ?_
  refine RC.region rfl ?_
  refine RL.q (Qt.mv rfl) ?_
  refine RL.q (Qt.eqlN rfl rfl) ?_
  refine RL.nil ?_
  refine RE.sqN ?_
  refine RC.condT rfl (rfl) ?_
  refine RC.seq ?_
  refine RC.region rfl ?_
  refine RL.q (Qt.as rfl) ?_
  refine RL.nil ?_
  refine RE.sqN ?_
  refine RC.ret ?_
  refine RE.sqR ?_
  exact RE.retB rfl ⟨rfl, rfl⟩ hS
theorem prForkN : Ct Try.prog 34 #[.pointer none] [] (fun v ps => v = .pointer none ∧ ps = []) := by
  refine Ct.enter Try.func34 rfl (Nat.le_of_ble_eq_true rfl) ?_
  intro oo w R hS
  change RC _ _ _ _ _ _ [(0, _)] _
  refine RC.seq ?_
  refine RC.region rfl ?_
  refine RL.q (Qt.as rfl) ?_
  refine RL.nil ?_
  refine RE.sqN ?_
  refine RC.seq ?_
  refine RC.seq ?_
  refine RC.region rfl ?_
  refine RL.q (Qt.mv rfl) ?_
  refine RL.q (Qt.eqlN rfl rfl) ?_
  refine RL.nil ?_
  refine RE.sqN ?_
  refine RC.condT rfl (rfl) ?_
  refine RC.seq ?_
  refine RC.region rfl ?_
  refine RL.q (Qt.as rfl) ?_
  refine RL.nil ?_
  refine RE.sqN ?_
  refine RC.ret ?_
  refine RE.sqR ?_
  exact RE.retB rfl ⟨rfl, rfl⟩ hS
theorem prListN (a : Int) : Ct Try.prog 27 #[.pointer none, .int .i64 a] [] (fun v ps => v = .slice none 0 0 ∧ ps = []) := by
  refine Ct.enter Try.func27 rfl (Nat.le_of_ble_eq_true rfl) ?_
  intro oo w R hS
  change RC _ _ _ _ _ _ [(0, _), (1, _)] _
  refine RC.seq ?_
  refine RC.region rfl ?_
  refine RL.q (Qt.as rfl) ?_
  refine RL.nil ?_
  refine RE.sqN ?_
  refine RC.seq ?_
  refine RC.seq ?_
  refine RC.region rfl ?_
  refine RL.q (Qt.mv rfl) ?_
  refine RL.q (Qt.eqlN rfl rfl) ?_
  refine RL.q (Qt.mv rfl) ?_
  refine RL.s (Skips.guard rfl rfl rfl (rfl)) ?_
  refine RL.s (Skips.guard rfl rfl rfl (rfl)) ?_
  refine RL.q ((by exact Qt.pickT rfl rfl rfl)) ?_
  refine RL.q (Qt.mv rfl) ?_
  refine RL.s (Skips.guard rfl rfl rfl (rfl)) ?_
  refine RL.s (Skips.guard rfl rfl rfl (rfl)) ?_
  refine RL.s (Skips.guard rfl rfl rfl (rfl)) ?_
  refine RL.s (Skips.guard rfl rfl rfl (rfl)) ?_
  refine RL.s (Skips.guard rfl rfl rfl (rfl)) ?_
  refine RL.s (Skips.guard rfl rfl rfl (rfl)) ?_
  refine RL.s (Skips.guard rfl rfl rfl (rfl)) ?_
  refine RL.q ((by exact Qt.pickT rfl rfl rfl)) ?_
  refine RL.nil ?_
  refine RE.sqN ?_
  refine RC.condT rfl (rfl) ?_
  refine RC.seq ?_
  refine RC.region rfl ?_
  refine RL.q (Qt.as rfl) ?_
  refine RL.nil ?_
  refine RE.sqN ?_
  refine RC.ret ?_
  refine RE.sqR ?_
  exact RE.retB rfl ⟨rfl, rfl⟩ hS
theorem prNewN (a b c : Int) (h : ¬ ((1 ≤ a ∧ a ≤ 64) ∧ (1 ≤ b ∧ b ≤ 1024) ∧ 1 ≤ c ∧ c ≤ 256)) : Ct Try.prog 14 #[.int .i64 a, .int .i64 b, .int .i64 c] [] (fun v ps => v = .pointer none ∧ ps = []) := by
  refine Ct.enter Try.func14 rfl (Nat.le_of_ble_eq_true rfl) ?_
  intro oo w R hS
  change RC _ _ _ _ _ _ [(0, _), (1, _), (2, _)] _
  refine RC.seq ?_
  refine RC.region rfl ?_
  refine RL.q (Qt.as rfl) ?_
  refine RL.nil ?_
  refine RE.sqN ?_
  refine RC.seq ?_
  refine RC.seq ?_
  refine RC.region rfl ?_
  refine RL.q (Qt.mv rfl) ?_
  refine RL.q (Qt.lss rfl rfl) ?_
  refine RL.q (Qt.mv rfl) ?_
  refine RLG.start 10 false rfl ?_
  refine RLG.q rfl rfl rfl (fun _ => Qt.mv rfl) ?_
  refine RLG.q rfl rfl rfl (fun hg => by (try simp only [decide_eq_false_iff_not] at hg); exact Qt.gtr rfl rfl) ?_
  refine RLG.or rfl rfl ?_
  refine RL.q (Qt.mv rfl) ?_
  refine RLG.start 14 false rfl ?_
  refine RLG.q rfl rfl rfl (fun _ => Qt.mv rfl) ?_
  refine RLG.q rfl rfl rfl (fun hg => by (try simp only [decide_eq_false_iff_not, Bool.or_eq_false_iff] at hg); exact Qt.lss rfl rfl) ?_
  refine RLG.or rfl rfl ?_
  refine RL.q (Qt.mv rfl) ?_
  refine RLG.start 18 false rfl ?_
  refine RLG.q rfl rfl rfl (fun _ => Qt.mv rfl) ?_
  refine RLG.q rfl rfl rfl (fun hg => by (try simp only [decide_eq_false_iff_not, Bool.or_eq_false_iff] at hg); exact Qt.gtr rfl rfl) ?_
  refine RLG.or rfl rfl ?_
  refine RL.q (Qt.mv rfl) ?_
  refine RLG.start 22 false rfl ?_
  refine RLG.q rfl rfl rfl (fun _ => Qt.mv rfl) ?_
  refine RLG.q rfl rfl rfl (fun hg => by (try simp only [decide_eq_false_iff_not, Bool.or_eq_false_iff] at hg); exact Qt.lss rfl rfl) ?_
  refine RLG.or rfl rfl ?_
  refine RL.q (Qt.mv rfl) ?_
  refine RLG.start 26 false rfl ?_
  refine RLG.q rfl rfl rfl (fun _ => Qt.mv rfl) ?_
  refine RLG.q rfl rfl rfl (fun hg => by (try simp only [decide_eq_false_iff_not, Bool.or_eq_false_iff] at hg); exact Qt.gtr rfl rfl) ?_
  refine RLG.or rfl rfl ?_
  refine RL.nil ?_
  refine RE.sqN ?_
  refine RC.condT rfl (by simp; omega) ?_
  refine RC.seq ?_
  refine RC.region rfl ?_
  refine RL.q (Qt.as rfl) ?_
  refine RL.nil ?_
  refine RE.sqN ?_
  refine RC.ret ?_
  refine RE.sqR ?_
  exact RE.retB rfl ⟨rfl, rfl⟩ hS
theorem prNewZ (a b c : Int) (h : (1 ≤ a ∧ a ≤ 64) ∧ (1 ≤ b ∧ b ≤ 1024) ∧ 1 ≤ c ∧ c ≤ 256) : Ct Try.prog 14 #[.int .i64 a, .int .i64 b, .int .i64 c] [] (fun v ps => (∃ b, v = .pointer (some ⟨b, 0, none⟩)) ∧ ps = [pO v a.toNat b.toNat c 0 (List.replicate (a.toNat + 1) [])]) := by
  obtain ⟨np, rfl⟩ : ∃ np : Nat, a = np := ⟨a.toNat, by omega⟩
  obtain ⟨nt, rfl⟩ : ∃ nt : Nat, b = nt := ⟨b.toNat, by omega⟩
  exact prNew np nt c (by omega) (by omega) (by omega) (by omega) (by omega) (by omega)

set_option maxHeartbeats 4000000 in
theorem prLawNone (x : ODeed) (n0 n1 n2 : Int) (F0 : Frag) (hx : x.ok) : Ct Try.prog 13 #[x.val, .agg #[.int .i64 n0, .int .i64 n1, .int .i64 n2]] [pin F0] (fun v' ps => v' = .bool true ∧ ps = [pin F0]) := by
  refine Ct.enter Try.func13 rfl (Nat.le_of_ble_eq_true rfl) ?_
  intro oo w R hS
  change RC _ _ _ _ _ _ [(0, _), (1, _)] _
  have hkx : x.cells.toArray.extract (0 + 3) (0 + 3 + 3) = x.k.cells.toArray := rfl
  have hkw : ∀ k : KKey, (wr #[.bool false, .int .u64 0, .int .u8 0] 0 k.cells).extract 0 (0 + 3) = k.cells.toArray := fun k => rfl
  refine RC.seq ?_
  refine RC.region rfl ?_
  refine RL.e (Ef.box hS rfl) ?_
  rintro _ w ⟨b2, rfl, hS⟩
  try simp (disch := omega) only [List.set_cons_zero, List.set_cons_succ, cells_int, cells_bool, cells_ptr, cells_slice, cells_func, cells_agg, cells_map, cells_int', cells_bool', cells_ptr', cells_slice', cells_agg', cells_map', cells_func', Nat.zero_add, wr, List.setIfInBounds_toArray] at hS
  refine RL.e (Ef.box hS rfl) ?_
  rintro _ w ⟨b3, rfl, hS⟩
  try simp (disch := omega) only [cells_agg'] at hS
  refine RL.q (Qt.as rfl) ?_
  refine RL.nil ?_
  refine RE.sqN ?_
  refine RC.seq ?_
  refine RC.region rfl ?_
  refine RL.q (Qt.as rfl) ?_
  refine RL.nil ?_
  refine RE.sqN ?_
  refine RC.seq ?_
  refine RC.region rfl ?_
  refine RL.q (Qt.mv rfl) ?_
  refine RL.q (Qt.fld rfl) ?_
  refine RL.q (Qt.ld rfl (by exact hS.at 1 rfl) (by first  | rfl)) ?_
  refine RL.q (Qt.fld rfl) ?_
  refine RL.q (Qt.ld rfl (by exact hS.at 1 rfl) (by first  | rfl)) ?_
  refine RL.e (Ef.call hS (prBestN x.proc x.draw) rfl rfl Try.call18 [] [0, 1, 2, 3] (by decide) rfl rfl) ?_
  rintro v24 w ⟨ps, ⟨rfl, rfl⟩, hS⟩
  try rw [List.nil_append] at hS
  refine RL.q (Qt.mv rfl) ?_
  refine RL.q (Qt.ext rfl rfl) ?_
  refine RL.q (Qt.ext rfl rfl) ?_
  refine RL.q (Qt.ext rfl rfl) ?_
  refine RL.q (Qt.ext rfl rfl) ?_
  refine RL.e (Ef.alloc hS) ?_
  rintro _ w ⟨b7, rfl, hS⟩
  try simp (disch := omega) only [cells_agg'] at hS
  refine RL.q (Qt.as rfl) ?_
  refine RL.e0 (Ef.st hS 0 rfl rfl rfl (by rfl) (by rfl) (by exact Nat.le_of_ble_eq_true rfl)) ?_
  intro _ w hS
  simp (disch := omega) only [List.set_cons_zero, cells_agg'] at hS
  refine RL.q (Qt.as rfl) ?_
  refine RL.q (Qt.as rfl) ?_
  refine RL.nil ?_
  refine RE.sqN ?_
  refine RC.seq ?_
  refine RC.region rfl ?_
  refine RL.q (Qt.mv rfl) ?_
  refine RL.q (Qt.fld rfl) ?_
  refine RL.q (Qt.ld rfl (by exact hS.at 2 rfl) (by first  | rfl)) ?_
  refine RL.q (Qt.fld rfl) ?_
  refine RL.q (Qt.ld rfl (by exact hS.at 2 rfl) (by first  | rfl)) ?_
  refine RL.e (Ef.call hS (prTakeN x.proc x.draw) rfl rfl Try.call19 [] [0, 1, 2, 3, 4] (by decide) rfl rfl) ?_
  rintro v35 w ⟨ps, ⟨rfl, rfl⟩, hS⟩
  try rw [List.nil_append] at hS
  refine RL.q (Qt.mv rfl) ?_
  refine RL.q (Qt.ext rfl rfl) ?_
  refine RL.q (Qt.ext rfl rfl) ?_
  refine RL.q (Qt.ext rfl rfl) ?_
  refine RL.q (Qt.ext rfl rfl) ?_
  refine RL.e (Ef.alloc hS) ?_
  rintro _ w ⟨b11, rfl, hS⟩
  try simp (disch := omega) only [cells_agg'] at hS
  refine RL.q (Qt.as rfl) ?_
  refine RL.e0 (Ef.st hS 0 rfl rfl rfl (by rfl) (by rfl) (by exact Nat.le_of_ble_eq_true rfl)) ?_
  intro _ w hS
  simp (disch := omega) only [List.set_cons_zero, cells_agg'] at hS
  refine RL.q (Qt.as rfl) ?_
  refine RL.q (Qt.as rfl) ?_
  refine RL.nil ?_
  refine RE.sqN ?_
  refine RC.seq ?_
  refine RC.region rfl ?_
  refine RL.q (Qt.mv rfl) ?_
  refine RL.q (Qt.fld rfl) ?_
  refine RL.q (Qt.ld rfl (by exact hS.at 3 rfl) (by first  | rfl)) ?_
  refine RL.e (Ef.call hS (prWhereN x.id) rfl rfl Try.call24 [] [0, 1, 2, 3, 4, 5] (by decide) rfl rfl) ?_
  rintro v44 w ⟨ps, ⟨rfl, rfl⟩, hS⟩
  try rw [List.nil_append] at hS
  refine RL.q (Qt.mv rfl) ?_
  refine RL.q (Qt.ext rfl rfl) ?_
  refine RL.q (Qt.ext rfl rfl) ?_
  refine RL.q (Qt.as rfl) ?_
  refine RL.q (Qt.as rfl) ?_
  refine RL.nil ?_
  refine RE.sqN ?_
  refine RC.seq ?_
  refine RC.region rfl ?_
  refine RL.q (Qt.bldV [.const (Go.Value.bool false), .const (Go.Value.int Go.IntKind.u64 0), .const (Go.Value.int Go.IntKind.u8 0)] rfl rfl (by kernel_rfl)) ?_
  refine RL.e (Ef.alloc hS) ?_
  rintro _ w ⟨b16, rfl, hS⟩
  try simp (disch := omega) only [cells_agg'] at hS
  refine RL.e0 (Ef.st hS 0 rfl rfl rfl (by rfl) (by rfl) (by exact Nat.le_of_ble_eq_true rfl)) ?_
  intro _ w hS
  simp (disch := omega) only [List.set_cons_zero, List.set_cons_succ, cells_agg', Nat.zero_add, wr, List.setIfInBounds_toArray] at hS
  refine RL.nil ?_
  refine RE.sqN ?_
  refine RC.seq ?_
  refine RC.region rfl ?_
  refine RL.q (Qt.ixA rfl rfl (by omega) (by omega)) ?_
  refine RL.q (Qt.ld rfl (by exact hS.at 3 rfl) (by first  | rfl)) ?_
  refine RL.q (Qt.geq rfl rfl) ?_
  refine RL.q (Qt.mv rfl) ?_
  refine RLG.start 51 true rfl ?_
  refine RLG.q rfl rfl rfl (fun hg => by (try simp only [decide_eq_true_eq] at hg); exact Qt.ixA rfl rfl (by omega) (by omega)) ?_
  refine RLG.q rfl rfl rfl (fun hg => by (try simp only [decide_eq_true_eq] at hg); exact Qt.ld rfl (by exact hS.at 3 rfl) (by first  | rfl)) ?_
  refine RLG.q rfl rfl rfl (fun hg => by (try simp only [decide_eq_true_eq] at hg); exact Qt.leq rfl rfl) ?_
  refine RLG.and rfl rfl ?_
  refine RL.q (Qt.mv rfl) ?_
  refine RLG.start 56 true rfl ?_
  refine RLG.q rfl rfl rfl (fun hg => by (try simp only [decide_eq_true_eq, Bool.and_eq_true] at hg); exact Qt.ixA rfl rfl (by omega) (by omega)) ?_
  refine RLG.q rfl rfl rfl (fun hg => by (try simp only [decide_eq_true_eq, Bool.and_eq_true] at hg); exact Qt.ld rfl (by exact hS.at 3 rfl) (by first  | rfl)) ?_
  refine RLG.q rfl rfl rfl (fun hg => by (try simp only [decide_eq_true_eq, Bool.and_eq_true] at hg); exact Qt.geq rfl rfl) ?_
  refine RLG.and rfl rfl ?_
  refine RL.q (Qt.mv rfl) ?_
  refine RLG.start 61 true rfl ?_
  refine RLG.q rfl rfl rfl (fun hg => by (try simp only [decide_eq_true_eq, Bool.and_eq_true] at hg); exact Qt.ixA rfl rfl (by omega) (by omega)) ?_
  refine RLG.q rfl rfl rfl (fun hg => by (try simp only [decide_eq_true_eq, Bool.and_eq_true] at hg); exact Qt.ld rfl (by exact hS.at 3 rfl) (by first  | rfl)) ?_
  refine RLG.q rfl rfl rfl (fun hg => by (try simp only [decide_eq_true_eq, Bool.and_eq_true] at hg); exact Qt.leq rfl rfl) ?_
  refine RLG.and rfl rfl ?_
  refine RL.q (Qt.mv rfl) ?_
  refine RLG.start 66 true rfl ?_
  refine RLG.q rfl rfl rfl (fun hg => by (try simp only [decide_eq_true_eq, Bool.and_eq_true] at hg); exact Qt.ixA rfl rfl (by omega) (by omega)) ?_
  refine RLG.q rfl rfl rfl (fun hg => by (try simp only [decide_eq_true_eq, Bool.and_eq_true] at hg); exact Qt.ld rfl (by exact hS.at 3 rfl) (by first  | rfl)) ?_
  refine RLG.q rfl rfl rfl (fun hg => by (try simp only [decide_eq_true_eq, Bool.and_eq_true] at hg); exact Qt.geq rfl rfl) ?_
  refine RLG.and rfl rfl ?_
  refine RL.q (Qt.mv rfl) ?_
  refine RLG.start 71 true rfl ?_
  refine RLG.q rfl rfl rfl (fun hg => by (try simp only [decide_eq_true_eq, Bool.and_eq_true] at hg); exact Qt.ixA rfl rfl (by omega) (by omega)) ?_
  refine RLG.q rfl rfl rfl (fun hg => by (try simp only [decide_eq_true_eq, Bool.and_eq_true] at hg); exact Qt.ld rfl (by exact hS.at 3 rfl) (by first  | rfl)) ?_
  refine RLG.q rfl rfl rfl (fun hg => by (try simp only [decide_eq_true_eq, Bool.and_eq_true] at hg); exact Qt.leq rfl rfl) ?_
  refine RLG.and rfl rfl ?_
  refine RL.q (Qt.as rfl) ?_
  refine RL.nil ?_
  refine RE.sqN ?_
  refine RC.seq ?_
  refine RC.region rfl ?_
  refine RL.e (Ef.call hS (prLive) rfl rfl Try.call23 [] [0, 1, 2, 3, 4, 5, 6] (by decide) rfl rfl) ?_
  rintro v76 w ⟨ps, ⟨rfl, p', l', rfl⟩, hS⟩
  refine RL.q (Qt.mv rfl) ?_
  refine RL.q (Qt.mv rfl) ?_ (Runs.guard rfl rfl rfl (rfl))
  refine RL.q (Qt.fld rfl) ?_ (Runs.guard rfl rfl rfl (rfl))
  refine RL.q (Qt.ld rfl (by exact hS.at 5 rfl) (by first  | rfl)) ?_ (Runs.guard rfl rfl rfl (rfl))
  refine RL.q (Qt.fld rfl) ?_ (Runs.guard rfl rfl rfl (rfl))
  refine RL.q (Qt.ld rfl (by exact hS.at 5 rfl) (by first  | rfl)) ?_ (Runs.guard rfl rfl rfl (rfl))
  refine RL.q (Qt.fld rfl) ?_ (Runs.guard rfl rfl rfl (rfl))
  refine RL.q (Qt.ldA rfl (by exact hS.at 5 rfl) (by exact hkx) (by exact Nat.le_of_ble_eq_true rfl)) ?_ (Runs.guard rfl rfl rfl (rfl))
  refine RL.e (Ef.call hS (prPutN x.proc x.id x.k) rfl rfl Try.call15 [] [0, 1, 2, 3, 4, 5, 6, 7] (by decide) rfl rfl) ?_ (Runs.guard rfl rfl rfl (rfl))
  rintro v85 w ⟨ps, ⟨rfl, rfl⟩, hS⟩
  try rw [List.nil_append] at hS
  refine RL.q (Qt.eql rfl rfl) ?_ (Runs.guard rfl rfl rfl (rfl))
  refine RL.q ((by exact Qt.pickT rfl rfl rfl)) ?_
  refine RL.q (Qt.mv rfl) ?_
  refine RL.q (Qt.mv rfl) ?_ (Runs.guard rfl rfl rfl (rfl))
  refine RL.q (Qt.fld rfl) ?_ (Runs.guard rfl rfl rfl (rfl))
  refine RL.q (Qt.ld rfl (by exact hS.at 5 rfl) (by first  | rfl)) ?_ (Runs.guard rfl rfl rfl (rfl))
  refine RL.q (Qt.fld rfl) ?_ (Runs.guard rfl rfl rfl (rfl))
  refine RL.q (Qt.ldA rfl (by exact hS.at 5 rfl) (by exact hkx) (by exact Nat.le_of_ble_eq_true rfl)) ?_ (Runs.guard rfl rfl rfl (rfl))
  refine RL.e (Ef.call hS (prChangeN x.id x.k) rfl rfl Try.call32 [] [0, 1, 2, 3, 4, 5, 6, 7] (by decide) rfl rfl) ?_ (Runs.guard rfl rfl rfl (rfl))
  rintro v94 w ⟨ps, ⟨rfl, rfl⟩, hS⟩
  try rw [List.nil_append] at hS
  refine RL.q (Qt.eql rfl rfl) ?_ (Runs.guard rfl rfl rfl (rfl))
  refine RL.q ((by exact Qt.pickT rfl rfl rfl)) ?_
  refine RL.q (Qt.mv rfl) ?_
  refine RL.q (Qt.mv rfl) ?_ (Runs.guard rfl rfl rfl (rfl))
  refine RL.q (Qt.fld rfl) ?_ (Runs.guard rfl rfl rfl (rfl))
  refine RL.q (Qt.ld rfl (by exact hS.at 5 rfl) (by first  | rfl)) ?_ (Runs.guard rfl rfl rfl (rfl))
  refine RL.e (Ef.call hS (prRemoveN x.id) rfl rfl Try.call33 [] [0, 1, 2, 3, 4, 5, 6, 7] (by decide) rfl rfl) ?_ (Runs.guard rfl rfl rfl (rfl))
  rintro v101 w ⟨ps, ⟨rfl, rfl⟩, hS⟩
  try rw [List.nil_append] at hS
  refine RL.q (Qt.eql rfl rfl) ?_ (Runs.guard rfl rfl rfl (rfl))
  refine RL.q ((by exact Qt.pickT rfl rfl rfl)) ?_
  refine RL.q (Qt.mv rfl) ?_
  refine RLG.start 104 true rfl ?_
  refine RLG.q rfl rfl rfl (fun _ => Qt.mv rfl) ?_
  refine RLG.q rfl rfl rfl (fun hg => by (try simp only [decide_eq_true_eq] at hg); exact Qt.eql rfl rfl) ?_
  refine RLG.and rfl rfl ?_
  refine RL.q (Qt.mv rfl) ?_
  refine RLG.start 108 true rfl ?_
  refine RLG.q rfl rfl rfl (fun hg => by (try simp only [decide_eq_true_eq, Bool.and_eq_true] at hg); exact Qt.ldA rfl (by exact hS.at 3 rfl) (by rfl) (by exact Nat.le_of_ble_eq_true rfl)) ?_
  refine RLG.q rfl rfl rfl (fun hg => by (try simp only [decide_eq_true_eq, Bool.and_eq_true] at hg); exact Qt.ldA rfl (by exact hS.at 1 rfl) (by rfl) (by exact Nat.le_of_ble_eq_true rfl)) ?_
  refine RLG.q rfl rfl rfl (fun hg => by (try simp only [decide_eq_true_eq, Bool.and_eq_true] at hg); exact Qt.eqlT rfl rfl (keyEq KKey.none KKey.none)) ?_
  refine RLG.and rfl rfl ?_
  refine RL.q (Qt.mv rfl) ?_
  refine RLG.start 113 true rfl ?_
  refine RLG.q rfl rfl rfl (fun _ => Qt.mv rfl) ?_
  refine RLG.q rfl rfl rfl (fun hg => by (try simp only [decide_eq_true_eq, Bool.and_eq_true] at hg); exact Qt.eql rfl rfl) ?_
  refine RLG.and rfl rfl ?_
  refine RL.q (Qt.mv rfl) ?_
  refine RLG.start 117 true rfl ?_
  refine RLG.q rfl rfl rfl (fun _ => Qt.mv rfl) ?_
  refine RLG.q rfl rfl rfl (fun _ => Qt.not rfl) ?_
  refine RLG.and rfl rfl ?_
  refine RL.q (Qt.mv rfl) ?_
  refine RLG.start 121 true rfl ?_
  refine RLG.q rfl rfl rfl (fun _ => Qt.mv rfl) ?_
  refine RLG.q rfl rfl rfl (fun hg => by (try simp only [decide_eq_true_eq, Bool.and_eq_true] at hg); exact Qt.eql rfl rfl) ?_
  refine RLG.and rfl rfl ?_
  refine RL.q (Qt.mv rfl) ?_
  refine RLG.start 125 true rfl ?_
  refine RLG.q rfl rfl rfl (fun hg => by (try simp only [decide_eq_true_eq, Bool.and_eq_true] at hg); exact Qt.ldA rfl (by exact hS.at 2 rfl) (by rfl) (by exact Nat.le_of_ble_eq_true rfl)) ?_
  refine RLG.q rfl rfl rfl (fun hg => by (try simp only [decide_eq_true_eq, Bool.and_eq_true] at hg); exact Qt.ldA rfl (by exact hS.at 1 rfl) (by rfl) (by exact Nat.le_of_ble_eq_true rfl)) ?_
  refine RLG.q rfl rfl rfl (fun hg => by (try simp only [decide_eq_true_eq, Bool.and_eq_true] at hg); exact Qt.eqlT rfl rfl (keyEq KKey.none KKey.none)) ?_
  refine RLG.and rfl rfl ?_
  refine RL.q (Qt.mv rfl) ?_
  refine RLG.start 130 true rfl ?_
  refine RLG.q rfl rfl rfl (fun _ => Qt.mv rfl) ?_
  refine RLG.q rfl rfl rfl (fun hg => by (try simp only [decide_eq_true_eq, Bool.and_eq_true] at hg); exact Qt.eql rfl rfl) ?_
  refine RLG.and rfl rfl ?_
  refine RL.q (Qt.mv rfl) ?_
  refine RLG.start 134 true rfl ?_
  refine RLG.q rfl rfl rfl (fun _ => Qt.mv rfl) ?_
  refine RLG.q rfl rfl rfl (fun _ => Qt.not rfl) ?_
  refine RLG.and rfl rfl ?_
  refine RL.q (Qt.mv rfl) ?_
  refine RLG.start 138 true rfl ?_
  refine RLG.q rfl rfl rfl (fun _ => Qt.mv rfl) ?_
  refine RLG.q rfl rfl rfl (fun hg => by (try simp only [decide_eq_true_eq, Bool.and_eq_true] at hg); exact Qt.eql rfl rfl) ?_
  refine RLG.and rfl rfl ?_
  refine RL.q (Qt.mv rfl) ?_
  refine RLG.start 142 true rfl ?_
  refine RLG.q rfl rfl rfl (fun _ => Qt.mv rfl) ?_
  refine RLG.q rfl rfl rfl (fun _ => Qt.not rfl) ?_
  refine RLG.and rfl rfl ?_
  refine RL.q (Qt.mv rfl) ?_
  refine RL.q (Qt.mv rfl) ?_ (Runs.guard rfl rfl rfl (by simp))
  refine RL.e (Ef.call hS (prListN 0) rfl rfl Try.call27 [] [0, 1, 2, 3, 4, 5, 6, 7] (by decide) rfl rfl) ?_ (Runs.guard rfl rfl rfl (by simp))
  rintro v148 w ⟨ps, ⟨rfl, rfl⟩, hS⟩
  try rw [List.nil_append] at hS
  refine RL.q (Qt.lenS rfl) ?_ (Runs.guard rfl rfl rfl (by simp))
  refine RL.q (Qt.eql rfl rfl) ?_ (Runs.guard rfl rfl rfl (by simp))
  refine RL.q ((by exact Qt.pickT rfl rfl rfl)) ?_
  refine RL.q (Qt.mv rfl) ?_
  refine RL.q (Qt.mv rfl) ?_ (Runs.guard rfl rfl rfl (by simp))
  refine RL.e (Ef.call hS (prLenN) rfl rfl Try.call21 [] [0, 1, 2, 3, 4, 5, 6, 7] (by decide) rfl rfl) ?_ (Runs.guard rfl rfl rfl (by simp))
  rintro v154 w ⟨ps, ⟨rfl, rfl⟩, hS⟩
  try rw [List.nil_append] at hS
  refine RL.q (Qt.eql rfl rfl) ?_ (Runs.guard rfl rfl rfl (by simp))
  refine RL.q ((by exact Qt.pickT rfl rfl rfl)) ?_
  refine RL.q (Qt.mv rfl) ?_
  refine RL.q (Qt.mv rfl) ?_ (Runs.guard rfl rfl rfl (by simp))
  refine RL.e (Ef.call hS (prForkN) rfl rfl Try.call34 [] [0, 1, 2, 3, 4, 5, 6, 7] (by decide) rfl rfl) ?_ (Runs.guard rfl rfl rfl (by simp))
  rintro v159 w ⟨ps, ⟨rfl, rfl⟩, hS⟩
  try rw [List.nil_append] at hS
  refine RL.q (Qt.eqlN rfl rfl) ?_ (Runs.guard rfl rfl rfl (by simp))
  refine RL.q ((by exact Qt.pickT rfl rfl rfl)) ?_
  refine RL.q (Qt.mv rfl) ?_
  refine RL.q (Qt.ixA rfl rfl (by omega) (by omega)) ?_ (Runs.guard rfl rfl rfl (by simp))
  refine RL.q (Qt.ld rfl (by exact hS.at 4 rfl) (by first  | rfl)) ?_ (Runs.guard rfl rfl rfl (by simp))
  refine RL.q (Qt.ixA rfl rfl (by omega) (by omega)) ?_ (Runs.guard rfl rfl rfl (by simp))
  refine RL.q (Qt.ld rfl (by exact hS.at 4 rfl) (by first  | rfl)) ?_ (Runs.guard rfl rfl rfl (by simp))
  refine RL.q (Qt.ixA rfl rfl (by omega) (by omega)) ?_ (Runs.guard rfl rfl rfl (by simp))
  refine RL.q (Qt.ld rfl (by exact hS.at 4 rfl) (by first  | rfl)) ?_ (Runs.guard rfl rfl rfl (by simp))
  by_cases h : (1 ≤ n0 ∧ n0 ≤ 64) ∧ (1 ≤ n1 ∧ n1 ≤ 1024) ∧ 1 ≤ n2 ∧ n2 ≤ 256
  · skip
    refine RL.e (Ef.call hS (prNewZ n0 n1 n2 h) rfl rfl Try.call14 [] [0, 1, 2, 3, 4, 5, 6, 7] (by decide) rfl rfl) ?_ (Runs.guard rfl rfl rfl (by simp))
    rintro v169 w ⟨ps, ⟨⟨b', rfl⟩, rfl⟩, hS⟩
    refine RL.q (Qt.neqN rfl rfl) ?_ (Runs.guard rfl rfl rfl (by simp))
    refine RL.q (Qt.mv rfl) ?_ (Runs.guard rfl rfl rfl (by simp))
    refine RL.q (Qt.eqlB rfl rfl) ?_ (Runs.guard rfl rfl rfl (by simp))
    refine RL.q ((by exact Qt.pickT rfl rfl rfl)) ?_
    refine RL.q (Qt.as rfl) ?_
    refine RL.nil ?_
    refine RE.sqN ?_
    refine RC.ret ?_
    exact RE.retB rfl ⟨by simp [oneOf]; omega, rfl⟩ (hS.pick [7, 8] (by decide) rfl)
  · skip
    refine RL.e (Ef.call hS (prNewN n0 n1 n2 h) rfl rfl Try.call14 [] [0, 1, 2, 3, 4, 5, 6, 7] (by decide) rfl rfl) ?_ (Runs.guard rfl rfl rfl (by simp))
    rintro v169 w ⟨ps, ⟨rfl, rfl⟩, hS⟩
    try rw [List.nil_append] at hS
    refine RL.q (Qt.neqN rfl rfl) ?_ (Runs.guard rfl rfl rfl (by simp))
    refine RL.q (Qt.mv rfl) ?_ (Runs.guard rfl rfl rfl (by simp))
    refine RL.q (Qt.eqlB rfl rfl) ?_ (Runs.guard rfl rfl rfl (by simp))
    refine RL.q ((by exact Qt.pickT rfl rfl rfl)) ?_
    refine RL.q (Qt.as rfl) ?_
    refine RL.nil ?_
    refine RE.sqN ?_
    refine RC.ret ?_
    exact RE.retB rfl ⟨by simp [oneOf]; omega, rfl⟩ (hS.pick [6, 7] (by decide) rfl)
end Go.Proofs

/- ProcsNone, for every input: nil sets answer so; sizes that may not be; the arguments read as before. No condition. -/
namespace Go.Proofs
open Go Go.Gx Go.ChangeShapes Go.WideShapes Go.ChangeAt Go.RowKit Go.Deep
namespace Ytieanejabjhnjaa
set_option maxRecDepth 100000 in
theorem procsNone_lifted (os : Os) (started : os.Started) (H : Type) (enc : TypeId × Value → H) :
    ReturnsInHanded {} Try.checked os 13 .any (Rows.procsNoneSpec.pre6 enc Try.prog Try.f13 Rows.procsNoneRow.domain false) (Rows.procsNoneSpec.post enc Try.prog Try.f13 false true false false) := by
  refine returnsInHanded_of_change (C := Try.checked) own_knob started (by kernel_rfl) Try.func13
    (ChangeSpec.witness6 (enc := enc) (C := Try.checked) false ⟨#[], #[.agg #[.int .i64 0, .int .i64 0, .int .i64 0, .bool false, .int .u64 0, .int .u8 0, .int .u64 0], .agg #[.int .i64 0, .int .i64 0, .int .i64 0]], []⟩ 8 (by kernel_rfl) (by kernel_rfl) (by kernel_rfl) (by kernel_rfl)) ?_
  intro W base args ds gs before hval0 hW hcnd _
  have hval : ∀ (j : Nat) t v, Try.f13.params[j]? = some t → args[j]? = some v → Value.okWide Try.prog W .any base t v := hval0
  have hW' := hW
  obtain ⟨p, q, hA0, hV, rfl, hfz, hnd⟩ := hW
  have hA : DataW.TrodAll enc Try.prog W 0 (fun _ => true) true Try.f13.params.toList args.toList ds p := hA0
  rw [Try.params13] at hA hval
  obtain ⟨v0, v1, d0, d1, p0, p1, rfl, rfl, rfl, h0, h1⟩ := trodAll_two hA
  obtain ⟨rfl, rfl⟩ := trodVars_none hV
  obtain ⟨x, rfl, okx⟩ := prDeed_open (hval 0 _ v0 rfl rfl) h0
  obtain ⟨n0, n1, n2, rfl⟩ := prInt3_open (hval 1 _ v1 rfl rfl) h1
  refine (prLawNone x n0 n1 n2 (allOf W) okx).law.mono fun e W' ⟨he, hb⟩ => ?_
  subst he
  exact ⟨_, rfl, law_post laid_out (by rw [Try.params13]; decide +kernel) hW' rfl hb rfl (TI.u (P := Try.prog) (t := 4)) rfl rfl rfl⟩

theorem procsNone_holds : Rows.ProcsNoneSaid :=
  OpenClaim.holds_of_wide 13 Try.f13 rfl rfl rfl rfl rfl rfl rfl ⟨rfl, rfl, rfl, rfl, rfl⟩ rfl rfl rfl rfl rfl (by kernel_rfl) Try.func13 (by show joinedFacts Try.prog 13 Try.f13 Rows.procsNoneSpec Rows.procsNoneRow = true; unfold joinedFacts; rw [may_enter, lifts_final, make_is]; kernel_rfl)
    (of_decide_eq_true (by kernel_rfl)) (by unfold Func.isWrapper; (rw [if_neg (by decide +kernel)]; exact ⟨rfl, rfl⟩))
    (fun os started H enc _ => procsNone_lifted os started H enc)
end Ytieanejabjhnjaa
end Go.Proofs

/- ProcsChanges, for every input: a key that changes changes no place; the arguments read as before. No condition. -/
import Derived.Test.YtieanejabjhnjaaMpf
import Derived.Test.YtieanejabjhnjaaRows
/- The law ProcsChanges answers true. -/
namespace Go.Proofs
open Go Go.Gx
variable {oo : World}

theorem prChg_where {np nt : Nat} {L : List (List KItem)} (hp : PrOk np nt L) {id : Int} {k : KKey} (hk : k.ok) (a : Int) : pwOk (prChg L nt id k) a = pwOk L a ∧ pwAt (prChg L nt id k) a = pwAt L a ∧ prLen (prChg L nt id k) = prLen L := by
  have hp' := hp.chg (id := id) hk
  by_cases he : prErr L nt id (kRight k) true = 0
  · have hok : pwOk L id = true := by
      unfold prErr at he
      split at he
      · cases he
      · split at he
        · cases he
        · rename_i h3
          cases hq : pwOk L id with
          | true => rfl
          | false => exact absurd ⟨rfl, hq⟩ h3
    obtain ⟨i, hi, ha, hm⟩ := pw_get hok
    have e : prChg L nt id k = L.set i (kChg L[i] nt id k) := by rw [prChg, if_pos he, ha, Int.toNat_natCast, prUpd_at hi]
    rw [e] at hp' ⊢
    have hnd := (hp.at hi).nodup
    have hpw : pw (L.set i (kChg L[i] nt id k)) a = pw L a := pw_congr (L := L) hp' (List.length_set ..) fun j hj hj' => by
      rw [List.getElem_set]
      split
      · subst_vars; exact kChg_mem hnd
      · exact Iff.rfl
    refine ⟨by rw [pwOk, pwOk, hpw], by rw [pwAt, pwAt, hpw], ?_⟩
    rw [prLen_set hi, kChg_len hnd]; omega
  · have e : prChg L nt id k = L := if_neg he
    rw [e]; exact ⟨rfl, rfl, rfl⟩
theorem prRem_there {np nt : Nat} {L : List (List KItem)} (hp : PrOk np nt L) {id : Int} (h : pwOk L id = true) : prErr L nt id true true = 0 ∧ prLen (prRem L nt id) = prLen L - 1 := by
  obtain ⟨i, hi, ha, hm⟩ := pw_get h
  have hr : 0 ≤ id ∧ id < nt := by
    obtain ⟨y, hy, rfl⟩ := List.mem_map.1 hm
    exact (hp.at hi).range y hy
  have he : prErr L nt id true true = 0 := prErr_ok1 (by simp; omega) h
  have hl := kout_len (hp.at hi).nodup hm
  refine ⟨he, ?_⟩
  rw [prRem, if_pos he, ha, Int.toNat_natCast, prUpd_at hi, prLen_set hi]
  omega
theorem prErr_no {L : List (List KItem)} {nt : Nat} {id : Int} {r : Bool} (h : pwOk L id = false) : prErr L nt id r true = 2 ∨ prErr L nt id r true = 6 := by
  by_cases h1 : id < 0 ∨ id ≥ nt ∨ r = false
  · exact .inl (prErr_range h1)
  · exact .inr (prErr_none h1 h)

set_option maxHeartbeats 4000000 in
theorem prLawChanges (n : Int) (hn : 0 ≤ n ∧ n ≤ 255) (v : Value) (ds : List ODeed) (x : ODeed) (F0 : Frag) (hR : ODeedsAt v ds F0) (hd : ∀ x ∈ ds, x.ok) (hx : x.ok) : Ct Try.prog 11 #[.int .u8 n, v, x.val] [pin F0] (fun v' ps => v' = .bool true ∧ ps = [pin F0]) := by
  have hnp4 : 1 ≤ prNp n ∧ prNp n ≤ 4 := by unfold prNp; omega
  have hkx : x.cells.toArray.extract (0 + 3) (0 + 3 + 3) = x.k.cells.toArray := rfl
  have hx7 : x.cells.toArray.extract 0 (0 + 7) = x.cells.toArray := rfl
  refine Ct.enter Try.func11 rfl (Nat.le_of_ble_eq_true rfl) ?_
  intro oo w R hS
  change RC _ _ _ _ _ _ [(0, _), (1, _), (2, _)] _
  refine RC.seq ?_
  refine RC.region rfl ?_
  refine RL.e (Ef.box hS rfl) ?_
  rintro _ w ⟨b5, rfl, hS⟩
  try simp (disch := omega) only [List.set_cons_zero, List.set_cons_succ, cells_int, cells_bool, cells_ptr, cells_slice, cells_func, cells_agg, cells_map, cells_int', cells_bool', cells_ptr', cells_slice', cells_agg', cells_map', cells_func', Nat.zero_add, wr, List.setIfInBounds_toArray] at hS
  refine RL.q (Qt.as rfl) ?_
  refine RL.nil ?_
  refine RE.sqN ?_
  refine RC.seq ?_
  refine RC.region rfl ?_
  refine RL.q (Qt.mv rfl) ?_
  refine RL.q (Qt.mv rfl) ?_
  refine RL.e (Ef.call hS (prPlay n hn v ds F0 hR hd) rfl rfl Try.call22 [1] [0, 2] (by decide) rfl rfl) ?_
  rintro v19 w ⟨ps, ⟨b, r, L, rfl, hok, hro, rfl⟩, hS⟩
  refine RL.q (Qt.mv rfl) ?_
  refine RL.q (Qt.ext rfl rfl) ?_
  refine RL.q (Qt.ext rfl rfl) ?_
  refine RL.q (Qt.ext rfl rfl) ?_
  refine RL.q (Qt.as rfl) ?_
  refine RL.q (Qt.as rfl) ?_
  refine RL.q (Qt.as rfl) ?_
  refine RL.nil ?_
  refine RE.sqN ?_
  refine RC.seq ?_
  refine RC.seq ?_
  refine RC.region rfl ?_
  have hlb := prLen_bound (L := L) (nt := 10) (fun l hl => (hok.each l hl).lenLe)
  rw [hok.len] at hlb
  have hl0 : 0 ≤ prLen L ∧ prLen L ≤ 50 := by omega
  refine RL.e (Ef.call hS (prLive) rfl rfl Try.call23 [] [0, 1, 2, 3, 4] (by decide) rfl rfl) ?_
  rintro v23 w ⟨ps, ⟨rfl, p', L', rfl⟩, hS⟩
  refine RL.q (Qt.not rfl) ?_
  refine RL.q (Qt.mv rfl) ?_
  refine RLG.start 25 false rfl ?_
  refine RLG.q rfl rfl rfl (fun _ => Qt.mv rfl) ?_
  refine RLG.q rfl rfl rfl (fun _ => Qt.not rfl) ?_
  refine RLG.or rfl rfl ?_
  refine RL.nil ?_
  refine RE.sqN ?_
  refine RC.condF rfl (rfl) ?_
  refine RC.skip ?_
  refine RE.sqN ?_
  refine RC.seq ?_
  refine RC.region rfl ?_
  refine RL.q (Qt.mv rfl) ?_
  refine RL.q (Qt.fld rfl) ?_
  refine RL.q (Qt.ld rfl (by exact hS.at 4 rfl) (by first  | rfl)) ?_
  refine RL.e (Ef.call hS (prWhere _ _ _ _ _ L x.id) rfl rfl Try.call24 [1] [0, 2, 3, 4, 5] (by decide) rfl rfl) ?_
  rintro v33 w ⟨ps, ⟨rfl, rfl⟩, hS⟩
  refine RL.q (Qt.mv rfl) ?_
  refine RL.q (Qt.ext rfl rfl) ?_
  refine RL.q (Qt.ext rfl rfl) ?_
  refine RL.q (Qt.as rfl) ?_
  refine RL.q (Qt.as rfl) ?_
  refine RL.nil ?_
  refine RE.sqN ?_
  refine RC.seq ?_
  refine RC.region rfl ?_
  refine RL.q (Qt.mv rfl) ?_
  refine RL.e (Ef.call hS (prLenC _ _ _ _ _ L) rfl rfl Try.call21 [0] [1, 2, 3, 4, 5] (by decide) rfl rfl) ?_
  rintro v37 w ⟨ps, ⟨rfl, rfl⟩, hS⟩
  refine RL.q (Qt.as rfl) ?_
  refine RL.nil ?_
  refine RE.sqN ?_
  refine RC.seq ?_
  refine RC.region rfl ?_
  refine RL.q (Qt.mv rfl) ?_
  refine RL.q (Qt.fld rfl) ?_
  refine RL.q (Qt.ld rfl (by exact hS.at 4 rfl) (by first  | rfl)) ?_
  refine RL.q (Qt.fld rfl) ?_
  refine RL.q (Qt.ldA rfl (by exact hS.at 4 rfl) (by exact hkx) (by exact Nat.le_of_ble_eq_true rfl)) ?_
  refine RL.e (Ef.call hS (prChange _ _ _ _ _ L x.id x.k hx.1 (by omega)) rfl rfl Try.call32 [0] [1, 2, 3, 4, 5] (by decide) rfl rfl) ?_
  rintro v43 w ⟨ps, ⟨rfl, rfl⟩, hS⟩
  refine RL.q (Qt.as rfl) ?_
  refine RL.nil ?_
  refine RE.sqN ?_
  refine RC.seq ?_
  refine RC.region rfl ?_
  refine RL.q (Qt.mv rfl) ?_
  refine RL.q (Qt.fld rfl) ?_
  refine RL.q (Qt.ld rfl (by exact hS.at 4 rfl) (by first  | rfl)) ?_
  obtain ⟨w1, w2, w3⟩ := prChg_where hok (id := x.id) hx.1 x.id
  have hok' := hok.chg (id := x.id) hx.1
  refine RL.e (Ef.call hS (prWhere _ _ _ _ _ (prChg L 10 x.id x.k) x.id) rfl rfl Try.call24 [0] [1, 2, 3, 4, 5] (by decide) rfl rfl) ?_
  rintro v48 w ⟨ps, ⟨rfl, rfl⟩, hS⟩
  rw [w1, w2]
  by_cases ht : pwOk L x.id = true
  · rw [ht]
    by_cases he : prErr L 10 x.id (kRight x.k) true = 0
    · obtain ⟨d1, d2⟩ := prRem_there hok' (w1.trans ht)
      rw [he]
      refine RL.q (Qt.mv rfl) ?_
      refine RL.q (Qt.ext rfl rfl) ?_
      refine RL.q (Qt.ext rfl rfl) ?_
      refine RL.q (Qt.as rfl) ?_
      refine RL.q (Qt.as rfl) ?_
      refine RL.nil ?_
      refine RE.sqN ?_
      refine RC.seq ?_
      refine RC.seq ?_
      refine RC.region rfl ?_
      refine RL.q (Qt.mv rfl) ?_
      refine RL.q (Qt.not rfl) ?_
      refine RL.q (Qt.mv rfl) ?_
      refine RLG.start 53 true rfl ?_
      refine RLG.q rfl rfl rfl (fun _ => Qt.mv rfl) ?_
      refine RLG.q rfl rfl rfl (fun hg => by (try simp only [decide_eq_true_eq, decide_eq_false_iff_not, Bool.or_eq_false_iff, Bool.and_eq_true, Bool.not_eq_true, Bool.not_eq_false, Option.isSome_some, Option.isNone_some] at hg); exact Qt.neq rfl rfl) ?_
      refine RLG.and rfl rfl ?_
      refine RL.q (Qt.mv rfl) ?_
      refine RLG.start 57 true rfl ?_
      refine RLG.q rfl rfl rfl (fun _ => Qt.mv rfl) ?_
      refine RLG.q rfl rfl rfl (fun hg => by (try simp only [decide_eq_true_eq, Bool.and_eq_true] at hg); exact Qt.neq rfl rfl) ?_
      refine RLG.and rfl rfl ?_
      refine RL.q (Qt.mv rfl) ?_
      refine RL.q (Qt.mv rfl) ?_ (Runs.guard rfl rfl rfl (by simp))
      refine RL.q (Qt.eql rfl rfl) ?_ (Runs.guard rfl rfl rfl (by simp))
      refine RL.q (Qt.mv rfl) ?_ (Runs.guard rfl rfl rfl (by simp))
      refine RL.q (Qt.mv rfl) ?_ (Runs.guard rfl rfl rfl (by simp))
      refine RL.q (Qt.not rfl) ?_ (Runs.guard rfl rfl rfl (by simp))
      refine RL.q ((by exact Qt.pickT rfl rfl rfl)) ?_ (Runs.guard rfl rfl rfl (by simp))
      refine RL.q ((by exact Qt.pickF rfl rfl rfl)) ?_
      refine RL.nil ?_
      refine RE.sqN ?_
      refine RC.condF rfl (by simp) ?_
      refine RC.skip ?_
      refine RE.sqN ?_
      refine RC.seq ?_
      refine RC.seq ?_
      refine RC.region rfl ?_
      refine RL.q (Qt.mv rfl) ?_
      refine RL.q (Qt.neq rfl rfl) ?_
      refine RL.q (Qt.mv rfl) ?_
      refine RL.s (Skips.guard rfl rfl rfl (by simp)) ?_
      refine RL.s (Skips.guard rfl rfl rfl (by simp)) ?_
      refine RL.s (Skips.guard rfl rfl rfl (by simp)) ?_
      refine RL.s (Skips.guard rfl rfl rfl (by simp)) ?_
      refine RL.s (Skips.guard rfl rfl rfl (by simp)) ?_
      refine RL.q ((by exact Qt.pickF rfl rfl rfl)) ?_
      refine RL.nil ?_
      refine RE.sqN ?_
      refine RC.condF rfl (rfl) ?_
      refine RC.skip ?_
      refine RE.sqN ?_
      refine RC.seq ?_
      refine RC.region rfl ?_
      refine RL.q (Qt.mv rfl) ?_
      refine RL.q (Qt.mv rfl) ?_
      refine RL.q (Qt.eql rfl rfl) ?_
      refine RL.q (Qt.mv rfl) ?_
      refine RLG.start 81 true rfl ?_
      refine RLG.q rfl rfl rfl (fun _ => Qt.mv rfl) ?_
      refine RLG.q rfl rfl rfl (fun _ => Qt.mv rfl) ?_
      refine RLG.q rfl rfl rfl (fun hg => by (try simp only [decide_eq_true_eq] at hg); exact Qt.eqlB rfl rfl) ?_
      refine RLG.and rfl rfl ?_
      refine RL.q (Qt.mv rfl) ?_
      refine RL.q (Qt.mv rfl) ?_ (Runs.guard rfl rfl rfl (by simp []))
      refine RL.e (Ef.call hS (prLenC _ _ _ _ _ (prChg L 10 x.id x.k)) rfl rfl Try.call21 [0] [1, 2, 3, 4, 5] (by decide) rfl rfl) ?_ (Runs.guard rfl rfl rfl (by simp []))
      rintro v88 w ⟨ps, ⟨rfl, rfl⟩, hS⟩
      refine RL.q (Qt.mv rfl) ?_ (Runs.guard rfl rfl rfl (by simp []))
      refine RL.q (Qt.eql rfl rfl) ?_ (Runs.guard rfl rfl rfl (by simp []))
      refine RL.q ((by exact Qt.pickT rfl (by (simp [] <;> fail)) rfl)) ?_
      refine RL.q (Qt.mv rfl) ?_
      refine RL.q (Qt.mv rfl) ?_ (Runs.guard rfl rfl rfl (by simp [w3]))
      refine RL.q (Qt.not rfl) ?_ (Runs.guard rfl rfl rfl (by simp [w3]))
      refine RL.q (Qt.mv rfl) ?_ (Runs.guard rfl rfl rfl (by simp [w3]))
      refine RL.q (Qt.mv rfl) ?_ (Runs.guard rfl rfl rfl (by simp []))
      refine RL.q (Qt.fld rfl) ?_ (Runs.guard rfl rfl rfl (by simp []))
      refine RL.q (Qt.ld rfl (by exact hS.at 4 rfl) (by first  | rfl)) ?_ (Runs.guard rfl rfl rfl (by simp []))
      refine RL.e (Ef.call hS (prRemove _ _ _ _ _ (prChg L 10 x.id x.k) x.id) rfl rfl Try.call33 [0] [1, 2, 3, 4, 5] (by decide) rfl rfl) ?_ (Runs.guard rfl rfl rfl (by simp []))
      rintro v99 w ⟨ps, ⟨rfl, rfl⟩, hS⟩
      refine RL.q (Qt.eql rfl rfl) ?_ (Runs.guard rfl rfl rfl (by simp []))
      refine RL.q (Qt.mv rfl) ?_ (Runs.guard rfl rfl rfl (by simp []))
      refine RL.q (Qt.mv rfl) ?_ (Runs.guard rfl rfl rfl (by simp [d1]))
      refine RL.e (Ef.call hS (prLenC _ _ _ _ _ (prRem (prChg L 10 x.id x.k) 10 x.id)) rfl rfl Try.call21 [0] [1, 2, 3, 4, 5] (by decide) rfl rfl) ?_ (Runs.guard rfl rfl rfl (by simp [d1]))
      rintro v103 w ⟨ps, ⟨rfl, rfl⟩, hS⟩
      refine RL.q (Qt.mv rfl) ?_ (Runs.guard rfl rfl rfl (by simp [d1]))
      refine RL.q ((by exact Qt.subI rfl rfl (by dsimp only [inK]; omega))) ?_ (Runs.guard rfl rfl rfl (by simp [d1]))
      refine RL.q (Qt.eql rfl rfl) ?_ (Runs.guard rfl rfl rfl (by simp [d1]))
      refine RL.q ((by exact Qt.pickT rfl (by (simp [d1] <;> fail)) rfl)) ?_ (Runs.guard rfl rfl rfl (by simp []))
      refine RL.q ((by exact Qt.pickF rfl rfl rfl)) ?_ (Runs.guard rfl rfl rfl (by simp [w3]))
      refine RL.q ((by exact Qt.pickT rfl (by (simp [w3] <;> fail)) rfl)) ?_
      refine RL.q (Qt.as rfl) ?_
      refine RL.nil ?_
      refine RE.sqN ?_
      refine RC.ret ?_
      exact RE.retB rfl ⟨by simp [oneOf, d2, w3], rfl⟩ (hS.pick [3, 5] (by decide) rfl)
    · obtain ⟨d1, d2⟩ := prRem_there hok ht
      have hL : prChg L 10 x.id x.k = L := if_neg he
      rw [hL] at hS
      refine RL.q (Qt.mv rfl) ?_
      refine RL.q (Qt.ext rfl rfl) ?_
      refine RL.q (Qt.ext rfl rfl) ?_
      refine RL.q (Qt.as rfl) ?_
      refine RL.q (Qt.as rfl) ?_
      refine RL.nil ?_
      refine RE.sqN ?_
      refine RC.seq ?_
      refine RC.seq ?_
      refine RC.region rfl ?_
      refine RL.q (Qt.mv rfl) ?_
      refine RL.q (Qt.not rfl) ?_
      refine RL.q (Qt.mv rfl) ?_
      refine RLG.start 53 true rfl ?_
      refine RLG.q rfl rfl rfl (fun _ => Qt.mv rfl) ?_
      refine RLG.q rfl rfl rfl (fun hg => by (try simp only [decide_eq_true_eq, decide_eq_false_iff_not, Bool.or_eq_false_iff, Bool.and_eq_true, Bool.not_eq_true, Bool.not_eq_false, Option.isSome_some, Option.isNone_some] at hg); exact Qt.neq rfl rfl) ?_
      refine RLG.and rfl rfl ?_
      refine RL.q (Qt.mv rfl) ?_
      refine RLG.start 57 true rfl ?_
      refine RLG.q rfl rfl rfl (fun _ => Qt.mv rfl) ?_
      refine RLG.q rfl rfl rfl (fun hg => by (try simp only [decide_eq_true_eq, Bool.and_eq_true] at hg); exact Qt.neq rfl rfl) ?_
      refine RLG.and rfl rfl ?_
      refine RL.q (Qt.mv rfl) ?_
      refine RL.q (Qt.mv rfl) ?_ (Runs.guard rfl rfl rfl (by simp))
      refine RL.q (Qt.eql rfl rfl) ?_ (Runs.guard rfl rfl rfl (by simp))
      refine RL.q (Qt.mv rfl) ?_ (Runs.guard rfl rfl rfl (by simp))
      refine RL.s (Skips.guard rfl rfl rfl (by simp [he])) ?_
      refine RL.s (Skips.guard rfl rfl rfl (by simp [he])) ?_
      refine RL.q ((by exact Qt.pickF rfl (by simp [he]) rfl)) ?_ (Runs.guard rfl rfl rfl (by simp))
      refine RL.q ((by exact Qt.pickF rfl rfl rfl)) ?_
      refine RL.nil ?_
      refine RE.sqN ?_
      refine RC.condF rfl (by simp []) ?_
      refine RC.skip ?_
      refine RE.sqN ?_
      refine RC.seq ?_
      refine RC.seq ?_
      refine RC.region rfl ?_
      refine RL.q (Qt.mv rfl) ?_
      refine RL.q (Qt.neq rfl rfl) ?_
      refine RL.q (Qt.mv rfl) ?_
      refine RL.q (Qt.mv rfl) ?_ (Runs.guard rfl rfl rfl (by simp [he]))
      refine RL.q (Qt.mv rfl) ?_ (Runs.guard rfl rfl rfl (by simp [he]))
      refine RL.q (Qt.ldA rfl (by exact hS.at 4 rfl) (by exact hx7) (by exact Nat.le_of_ble_eq_true rfl)) ?_ (Runs.guard rfl rfl rfl (by simp [he]))
      refine RL.e (Ef.call hS (prSame _ r _ _ _ _ L x hx) rfl rfl Try.call31 [0, 2] [1, 3, 4, 5] (by decide) rfl rfl) ?_ (Runs.guard rfl rfl rfl (by simp [he]))
      rintro v75 w ⟨ps, ⟨rfl, rfl⟩, hS⟩
      refine RL.q (Qt.not rfl) ?_ (Runs.guard rfl rfl rfl (by simp [he]))
      refine RL.q ((by exact Qt.pickT rfl (by (simp [he] <;> fail)) rfl)) ?_
      refine RL.nil ?_
      refine RE.sqN ?_
      refine RC.condF rfl (by simp) ?_
      refine RC.skip ?_
      refine RE.sqN ?_
      refine RC.seq ?_
      refine RC.region rfl ?_
      refine RL.q (Qt.mv rfl) ?_
      refine RL.q (Qt.mv rfl) ?_
      refine RL.q (Qt.eql rfl rfl) ?_
      refine RL.q (Qt.mv rfl) ?_
      refine RLG.start 81 true rfl ?_
      refine RLG.q rfl rfl rfl (fun _ => Qt.mv rfl) ?_
      refine RLG.q rfl rfl rfl (fun _ => Qt.mv rfl) ?_
      refine RLG.q rfl rfl rfl (fun hg => by (try simp only [decide_eq_true_eq] at hg); exact Qt.eqlB rfl rfl) ?_
      refine RLG.and rfl rfl ?_
      refine RL.q (Qt.mv rfl) ?_
      refine RL.q (Qt.mv rfl) ?_ (Runs.guard rfl rfl rfl (by simp))
      refine RL.e (Ef.call hS (prLenC _ _ _ _ _ L) rfl rfl Try.call21 [0] [1, 2, 3, 4, 5] (by decide) rfl rfl) ?_ (Runs.guard rfl rfl rfl (by simp))
      rintro v88 w ⟨ps, ⟨rfl, rfl⟩, hS⟩
      refine RL.q (Qt.mv rfl) ?_ (Runs.guard rfl rfl rfl (by simp))
      refine RL.q (Qt.eql rfl rfl) ?_ (Runs.guard rfl rfl rfl (by simp))
      refine RL.q ((by exact Qt.pickT rfl (by (simp [] <;> fail)) rfl)) ?_
      refine RL.q (Qt.mv rfl) ?_
      refine RL.q (Qt.mv rfl) ?_ (Runs.guard rfl rfl rfl (by simp))
      refine RL.q (Qt.not rfl) ?_ (Runs.guard rfl rfl rfl (by simp))
      refine RL.q (Qt.mv rfl) ?_ (Runs.guard rfl rfl rfl (by simp))
      refine RL.q (Qt.mv rfl) ?_ (Runs.guard rfl rfl rfl (by simp))
      refine RL.q (Qt.fld rfl) ?_ (Runs.guard rfl rfl rfl (by simp))
      refine RL.q (Qt.ld rfl (by exact hS.at 4 rfl) (by first  | rfl)) ?_ (Runs.guard rfl rfl rfl (by simp))
      refine RL.e (Ef.call hS (prRemove _ _ _ _ _ L x.id) rfl rfl Try.call33 [0] [1, 2, 3, 4, 5] (by decide) rfl rfl) ?_ (Runs.guard rfl rfl rfl (by simp))
      rintro v99 w ⟨ps, ⟨rfl, rfl⟩, hS⟩
      refine RL.q (Qt.eql rfl rfl) ?_ (Runs.guard rfl rfl rfl (by simp))
      refine RL.q (Qt.mv rfl) ?_ (Runs.guard rfl rfl rfl (by simp))
      refine RL.q (Qt.mv rfl) ?_ (Runs.guard rfl rfl rfl (by simp [d1]))
      refine RL.e (Ef.call hS (prLenC _ _ _ _ _ (prRem L 10 x.id)) rfl rfl Try.call21 [0] [1, 2, 3, 4, 5] (by decide) rfl rfl) ?_ (Runs.guard rfl rfl rfl (by simp [d1]))
      rintro v103 w ⟨ps, ⟨rfl, rfl⟩, hS⟩
      refine RL.q (Qt.mv rfl) ?_ (Runs.guard rfl rfl rfl (by simp [d1]))
      refine RL.q ((by exact Qt.subI rfl rfl (by dsimp only [inK]; omega))) ?_ (Runs.guard rfl rfl rfl (by simp [d1]))
      refine RL.q (Qt.eql rfl rfl) ?_ (Runs.guard rfl rfl rfl (by simp [d1]))
      refine RL.q ((by exact Qt.pickT rfl (by (simp [d1] <;> fail)) rfl)) ?_ (Runs.guard rfl rfl rfl (by simp))
      refine RL.q ((by exact Qt.pickF rfl rfl rfl)) ?_ (Runs.guard rfl rfl rfl (by simp))
      refine RL.q ((by exact Qt.pickT rfl (by (simp [] <;> fail)) rfl)) ?_
      refine RL.q (Qt.as rfl) ?_
      refine RL.nil ?_
      refine RE.sqN ?_
      refine RC.ret ?_
      exact RE.retB rfl ⟨by simp [oneOf, d2], rfl⟩ (hS.pick [3, 5] (by decide) rfl)
  · have ht : pwOk L x.id = false := by simpa using ht
    have hee := prErr_no (nt := 10) (r := kRight x.k) ht
    have he : ¬ prErr L 10 x.id (kRight x.k) true = 0 := by omega
    have hL : prChg L 10 x.id x.k = L := if_neg he
    rw [hL] at hS
    rw [ht]
    have hg : ((!false && decide (prErr L 10 x.id (kRight x.k) true ≠ 6)) && decide (prErr L 10 x.id (kRight x.k) true ≠ 2)) = false := by
      rcases hee with h | h <;> simp [h]
    refine RL.q (Qt.mv rfl) ?_
    refine RL.q (Qt.ext rfl rfl) ?_
    refine RL.q (Qt.ext rfl rfl) ?_
    refine RL.q (Qt.as rfl) ?_
    refine RL.q (Qt.as rfl) ?_
    refine RL.nil ?_
    refine RE.sqN ?_
    refine RC.seq ?_
    refine RC.seq ?_
    refine RC.region rfl ?_
    refine RL.q (Qt.mv rfl) ?_
    refine RL.q (Qt.not rfl) ?_
    refine RL.q (Qt.mv rfl) ?_
    refine RLG.start 53 true rfl ?_
    refine RLG.q rfl rfl rfl (fun _ => Qt.mv rfl) ?_
    refine RLG.q rfl rfl rfl (fun hg => by (try simp only [decide_eq_true_eq, decide_eq_false_iff_not, Bool.or_eq_false_iff, Bool.and_eq_true, Bool.not_eq_true, Bool.not_eq_false, Option.isSome_some, Option.isNone_some] at hg); exact Qt.neq rfl rfl) ?_
    refine RLG.and rfl rfl ?_
    refine RL.q (Qt.mv rfl) ?_
    refine RLG.start 57 true rfl ?_
    refine RLG.q rfl rfl rfl (fun _ => Qt.mv rfl) ?_
    refine RLG.q rfl rfl rfl (fun hg => by (try simp only [decide_eq_true_eq, Bool.and_eq_true] at hg); exact Qt.neq rfl rfl) ?_
    refine RLG.and rfl rfl ?_
    refine RL.q (Qt.mv rfl) ?_
    refine RL.q (Qt.mv rfl) ?_ (Runs.guard rfl rfl rfl (hg))
    refine RL.q (Qt.eql rfl rfl) ?_ (Runs.guard rfl rfl rfl (hg))
    refine RL.q (Qt.mv rfl) ?_ (Runs.guard rfl rfl rfl (hg))
    refine RL.s (Skips.guard rfl rfl rfl (by simp [he])) ?_
    refine RL.s (Skips.guard rfl rfl rfl (by simp [he])) ?_
    refine RL.q ((by exact Qt.pickF rfl (by simp [he]) rfl)) ?_ (Runs.guard rfl rfl rfl (hg))
    refine RL.q ((by exact Qt.pickF rfl (by assumption) rfl)) ?_
    refine RL.nil ?_
    refine RE.sqN ?_
    refine RC.condF rfl (by simp []) ?_
    refine RC.skip ?_
    refine RE.sqN ?_
    refine RC.seq ?_
    refine RC.seq ?_
    refine RC.region rfl ?_
    refine RL.q (Qt.mv rfl) ?_
    refine RL.q (Qt.neq rfl rfl) ?_
    refine RL.q (Qt.mv rfl) ?_
    refine RL.q (Qt.mv rfl) ?_ (Runs.guard rfl rfl rfl (by simp [he]))
    refine RL.q (Qt.mv rfl) ?_ (Runs.guard rfl rfl rfl (by simp [he]))
    refine RL.q (Qt.ldA rfl (by exact hS.at 4 rfl) (by exact hx7) (by exact Nat.le_of_ble_eq_true rfl)) ?_ (Runs.guard rfl rfl rfl (by simp [he]))
    refine RL.e (Ef.call hS (prSame _ r _ _ _ _ L x hx) rfl rfl Try.call31 [0, 2] [1, 3, 4, 5] (by decide) rfl rfl) ?_ (Runs.guard rfl rfl rfl (by simp [he]))
    rintro v75 w ⟨ps, ⟨rfl, rfl⟩, hS⟩
    refine RL.q (Qt.not rfl) ?_ (Runs.guard rfl rfl rfl (by simp [he]))
    refine RL.q ((by exact Qt.pickT rfl (by (simp [he] <;> fail)) rfl)) ?_
    refine RL.nil ?_
    refine RE.sqN ?_
    refine RC.condF rfl (by simp) ?_
    refine RC.skip ?_
    refine RE.sqN ?_
    refine RC.seq ?_
    refine RC.region rfl ?_
    refine RL.q (Qt.mv rfl) ?_
    refine RL.q (Qt.mv rfl) ?_
    refine RL.q (Qt.eql rfl rfl) ?_
    refine RL.q (Qt.mv rfl) ?_
    refine RLG.start 81 true rfl ?_
    refine RLG.q rfl rfl rfl (fun _ => Qt.mv rfl) ?_
    refine RLG.q rfl rfl rfl (fun _ => Qt.mv rfl) ?_
    refine RLG.q rfl rfl rfl (fun hg => by (try simp only [decide_eq_true_eq] at hg); exact Qt.eqlB rfl rfl) ?_
    refine RLG.and rfl rfl ?_
    refine RL.q (Qt.mv rfl) ?_
    refine RL.q (Qt.mv rfl) ?_ (Runs.guard rfl rfl rfl (by simp))
    refine RL.e (Ef.call hS (prLenC _ _ _ _ _ L) rfl rfl Try.call21 [0] [1, 2, 3, 4, 5] (by decide) rfl rfl) ?_ (Runs.guard rfl rfl rfl (by simp))
    rintro v88 w ⟨ps, ⟨rfl, rfl⟩, hS⟩
    refine RL.q (Qt.mv rfl) ?_ (Runs.guard rfl rfl rfl (by simp))
    refine RL.q (Qt.eql rfl rfl) ?_ (Runs.guard rfl rfl rfl (by simp))
    refine RL.q ((by exact Qt.pickT rfl (by (simp [] <;> fail)) rfl)) ?_
    refine RL.q (Qt.mv rfl) ?_
    refine RL.q (Qt.mv rfl) ?_ (Runs.guard rfl rfl rfl (by simp))
    refine RL.q (Qt.not rfl) ?_ (Runs.guard rfl rfl rfl (by simp))
    refine RL.q (Qt.mv rfl) ?_ (Runs.guard rfl rfl rfl (by simp))
    refine RL.s (Skips.guard rfl rfl rfl (rfl)) ?_
    refine RL.s (Skips.guard rfl rfl rfl (rfl)) ?_
    refine RL.s (Skips.guard rfl rfl rfl (rfl)) ?_
    refine RL.s (Skips.guard rfl rfl rfl (rfl)) ?_
    refine RL.s (Skips.guard rfl rfl rfl (rfl)) ?_
    refine RL.s (Skips.guard rfl rfl rfl (rfl)) ?_
    refine RL.s (Skips.undef rfl rfl rfl) ?_
    refine RL.s (Skips.undef rfl rfl rfl) ?_
    refine RL.s (Skips.undef rfl rfl rfl) ?_
    refine RL.s (Skips.undef rfl rfl rfl) ?_
    refine RL.s (Skips.undef rfl rfl rfl) ?_
    refine RL.s (Skips.guard rfl rfl rfl (rfl)) ?_
    refine RL.q ((by exact Qt.pickT rfl rfl rfl)) ?_ (Runs.guard rfl rfl rfl (by simp))
    refine RL.q ((by exact Qt.pickT rfl (by (simp [] <;> fail)) rfl)) ?_
    refine RL.q (Qt.as rfl) ?_
    refine RL.nil ?_
    refine RE.sqN ?_
    refine RC.ret ?_
    exact RE.retB rfl ⟨by simp [oneOf], rfl⟩ (hS.pick [3, 5] (by decide) rfl)
end Go.Proofs

/- ProcsChanges, for every input: a key that changes changes no place; what stands nowhere is refused; the arguments read as before. No condition. -/
namespace Go.Proofs
open Go Go.Gx Go.ChangeShapes Go.WideShapes Go.ChangeAt Go.RowKit Go.Deep
namespace Ytieanejabjhnjaa
set_option maxRecDepth 100000 in
theorem procsChanges_lifted (os : Os) (started : os.Started) (H : Type) (enc : TypeId × Value → H) :
    ReturnsInHanded {} Try.checked os 11 .any (Rows.procsChangesSpec.pre6 enc Try.prog Try.f11 Rows.procsChangesRow.domain false) (Rows.procsChangesSpec.post enc Try.prog Try.f11 false true false false) := by
  refine returnsInHanded_of_change (C := Try.checked) own_knob started (by kernel_rfl) Try.func11
    (ChangeSpec.witness6 (enc := enc) (C := Try.checked) false ⟨#[], #[.int .u8 0, .slice none 0 0, .agg #[.int .i64 0, .int .i64 0, .int .i64 0, .bool false, .int .u64 0, .int .u8 0, .int .u64 0]], []⟩ 8 (by kernel_rfl) (by kernel_rfl) (by kernel_rfl) (by kernel_rfl)) ?_
  intro W base args ds gs before hval0 hW hcnd _
  have hval : ∀ (j : Nat) t v, Try.f11.params[j]? = some t → args[j]? = some v → Value.okWide Try.prog W .any base t v := hval0
  have hW' := hW
  obtain ⟨p, q, hA0, hV, rfl, hfz, hnd⟩ := hW
  have hA : DataW.TrodAll enc Try.prog W 0 (fun _ => true) true Try.f11.params.toList args.toList ds p := hA0
  rw [Try.params11] at hA hval
  obtain ⟨v0, v1, v2, d0, d1, d2, p0, p1, p2, rfl, rfl, rfl, h0, h1, h2⟩ := trodAll_three hA
  obtain ⟨rfl, rfl⟩ := trodVars_none hV
  obtain ⟨n, rfl, _, _, wn⟩ := open_int (TI.u (P := Try.prog) (t := 5)) (hval 0 _ v0 rfl rfl) h0
  obtain ⟨dl, hdl, okdl⟩ := prDeeds_open (hval 1 _ v1 rfl rfl) h1
  obtain ⟨x, rfl, okx⟩ := prDeed_open (hval 2 _ v2 rfl rfl) h2
  refine (prLawChanges n (bounds_u8 wn) v1 dl x (allOf W) hdl okdl okx).law.mono fun e W' ⟨he, hb⟩ => ?_
  subst he
  exact ⟨_, rfl, law_post laid_out (by rw [Try.params11]; decide +kernel) hW' rfl hb rfl (TI.u (P := Try.prog) (t := 4)) rfl rfl rfl⟩

theorem procsChanges_holds : Rows.ProcsChangesSaid :=
  OpenClaim.holds_of_wide 11 Try.f11 rfl rfl rfl rfl rfl rfl rfl ⟨rfl, rfl, rfl, rfl, rfl⟩ rfl rfl rfl rfl rfl (by kernel_rfl) Try.func11 (by show joinedFacts Try.prog 11 Try.f11 Rows.procsChangesSpec Rows.procsChangesRow = true; unfold joinedFacts; rw [may_enter, lifts_final, make_is]; kernel_rfl)
    (of_decide_eq_true (by kernel_rfl)) (by unfold Func.isWrapper; (rw [if_neg (by decide +kernel)]; exact ⟨rfl, rfl⟩))
    (fun os started H enc _ => procsChanges_lifted os started H enc)
end Ytieanejabjhnjaa
end Go.Proofs

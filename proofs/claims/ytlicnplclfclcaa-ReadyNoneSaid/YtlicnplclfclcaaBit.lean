/- Four words of 64 bits as 256 flags: setting and clearing one, the highest one. No program stands here. -/
import Derived.Test.YtlicnplclfclcaaTab
import Derived.Lib.BitFns
namespace Go.Proofs
open Go Go.Gx

def shlB (s : Int) : Int := IntKind.wrap .u64 (1 * 2 ^ min s.toNat (IntKind.bits .u64))
def orB (w s : Int) : Int := IntKind.wrap .u64 (BitVec.ofInt (IntKind.bits .u64) w ||| BitVec.ofInt (IntKind.bits .u64) (shlB s)).toNat
def andNotB (w s : Int) : Int := IntKind.wrap .u64 (BitVec.ofInt (IntKind.bits .u64) w &&& ~~~ BitVec.ofInt (IntKind.bits .u64) (shlB s)).toNat

theorem shlB_eq {s : Int} (h0 : 0 ≤ s) (h1 : s < 64) : shlB s = ((2 ^ s.toNat : Nat) : Int) := by
  unfold shlB
  have h2 : min s.toNat (IntKind.bits .u64) = s.toNat := by
    have : IntKind.bits .u64 = 64 := rfl
    omega
  rw [h2, Int.one_mul]
  have h3 : 2 ^ s.toNat < 2 ^ 64 := Nat.pow_lt_pow_right (by decide) (by omega)
  have h4 : ((2 : Int) ^ s.toNat) = ((2 ^ s.toNat : Nat) : Int) := by simp
  rw [h4]
  refine wrap_in ?_
  have : (2 : Nat) ^ 64 = 18446744073709551616 := by decide
  generalize (2 : Nat) ^ s.toNat = q at h3 ⊢
  dsimp only [inK]
  omega

theorem ofInt_bit {w : Int} (h0 : 0 ≤ w) (j : Nat) (hj : j < 64) : (BitVec.ofInt 64 w).getLsbD j = w.toNat.testBit j := by
  have : BitVec.ofInt 64 w = BitVec.ofNat 64 w.toNat := by
    apply BitVec.eq_of_toNat_eq
    simp only [BitVec.toNat_ofInt, BitVec.toNat_ofNat]
    omega
  rw [this, BitVec.getLsbD_ofNat]
  simp [hj]

theorem bv_in (x : BitVec 64) : inK .u64 (x.toNat : Int) := by
  have := x.isLt
  dsimp only [inK]
  have h : (2 : Nat) ^ 64 = 18446744073709551616 := by decide
  omega

theorem orB_spec {w s : Int} (hw : 0 ≤ w) (h0 : 0 ≤ s) (h1 : s < 64) : inK .u64 (orB w s) ∧ ∀ j, j < 64 → (orB w s).toNat.testBit j = (w.toNat.testBit j || decide (j = s.toNat)) := by
  have e : orB w s = ((BitVec.ofInt 64 w ||| BitVec.ofInt 64 (shlB s)).toNat : Int) := wrap_in (bv_in _)
  rw [e]
  refine ⟨bv_in _, fun j hj => ?_⟩
  rw [Int.toNat_natCast, BitVec.testBit_toNat, BitVec.getLsbD_or, ofInt_bit hw j hj, shlB_eq h0 h1, ofInt_bit (Int.natCast_nonneg _) j hj, Int.toNat_natCast, Nat.testBit_two_pow]
  congr 1
  exact decide_eq_decide.2 eq_comm

theorem andNotB_spec {w s : Int} (hw : 0 ≤ w) (h0 : 0 ≤ s) (h1 : s < 64) : inK .u64 (andNotB w s) ∧ ∀ j, j < 64 → (andNotB w s).toNat.testBit j = (w.toNat.testBit j && !decide (j = s.toNat)) := by
  have e : andNotB w s = ((BitVec.ofInt 64 w &&& ~~~ BitVec.ofInt 64 (shlB s)).toNat : Int) := wrap_in (bv_in _)
  rw [e]
  refine ⟨bv_in _, fun j hj => ?_⟩
  rw [Int.toNat_natCast, BitVec.testBit_toNat, BitVec.getLsbD_and, BitVec.getLsbD_not, ofInt_bit hw j hj, shlB_eq h0 h1, ofInt_bit (Int.natCast_nonneg _) j hj, Int.toNat_natCast, Nat.testBit_two_pow]
  simp only [hj, decide_true, Bool.true_and]
  congr 2
  exact decide_eq_decide.2 eq_comm

/-- Words that tell flags. -/
structure MW (W : Int → Int) (m : Int → Bool) : Prop where
  rng : ∀ i, 0 ≤ i → i < 4 → inK .u64 (W i)
  bit : ∀ v, 0 ≤ v → v ≤ 255 → (W (v / 64)).toNat.testBit (v % 64).toNat = m v

theorem MW.zero : MW (fun _ => 0) (fun _ => false) := ⟨fun _ _ _ => by dsimp only [inK]; omega, fun v _ _ => by simp⟩
theorem MW.congr {W : Int → Int} {m m' : Int → Bool} (h : MW W m) (hm : ∀ v, 0 ≤ v → v ≤ 255 → m' v = m v) : MW W m' := ⟨h.rng, fun v h0 h1 => by rw [hm v h0 h1]; exact h.bit v h0 h1⟩
theorem MW.congrW {W W' : Int → Int} {m : Int → Bool} (h : MW W m) (hm : ∀ i, 0 ≤ i → i < 4 → W' i = W i) : MW W' m := ⟨fun i h0 h1 => by rw [hm i h0 h1]; exact h.rng i h0 h1, fun v h0 h1 => by rw [hm _ (by omega) (by omega)]; exact h.bit v h0 h1⟩

theorem MW.upd {W : Int → Int} {m : Int → Bool} (h : MW W m) {v x : Int} {f : Bool → Bool} {b : Bool} (h0 : 0 ≤ v) (h1 : v ≤ 255) (hx : inK .u64 x) (hb : ∀ j, j < 64 → x.toNat.testBit j = if j = (v % 64).toNat then b else (W (v / 64)).toNat.testBit j) : MW (Proofs.upd W (v / 64) x) (Proofs.upd m v b) := by
  refine ⟨fun i g0 g1 => ?_, fun u g0 g1 => ?_⟩
  · by_cases e : i = v / 64
    · subst e; rw [upd_same]; exact hx
    · rw [upd_ne _ _ e]; exact h.rng i g0 g1
  · by_cases e : u / 64 = v / 64
    · rw [e, upd_same, hb _ (by omega)]
      by_cases e2 : u = v
      · subst e2; rw [if_pos rfl, upd_same]
      · rw [if_neg (by omega), upd_ne _ _ e2, ← e]; exact h.bit u g0 g1
    · rw [upd_ne _ _ e, upd_ne _ _ (fun e2 => e (by rw [e2]))]; exact h.bit u g0 g1

theorem MW.or {W : Int → Int} {m : Int → Bool} (h : MW W m) {v : Int} (h0 : 0 ≤ v) (h1 : v ≤ 255) : MW (Proofs.upd W (v / 64) (orB (W (v / 64)) (v % 64))) (Proofs.upd m v true) := by
  have hr := h.rng (v / 64) (by omega) (by omega)
  dsimp only [inK] at hr
  obtain ⟨hx, hb⟩ := orB_spec hr.1 (s := v % 64) (by omega) (by omega)
  refine h.upd (f := id) h0 h1 hx fun j hj => ?_
  rw [hb j hj]
  by_cases e : j = (v % 64).toNat <;> simp [e]

theorem MW.andNot {W : Int → Int} {m : Int → Bool} (h : MW W m) {v : Int} (h0 : 0 ≤ v) (h1 : v ≤ 255) : MW (Proofs.upd W (v / 64) (andNotB (W (v / 64)) (v % 64))) (Proofs.upd m v false) := by
  have hr := h.rng (v / 64) (by omega) (by omega)
  dsimp only [inK] at hr
  obtain ⟨hx, hb⟩ := andNotB_spec hr.1 (s := v % 64) (by omega) (by omega)
  refine h.upd (f := id) h0 h1 hx fun j hj => ?_
  rw [hb j hj]
  by_cases e : j = (v % 64).toNat <;> simp [e]

theorem MW.word {W : Int → Int} {m : Int → Bool} (h : MW W m) {i : Int} (h0 : 0 ≤ i) (h1 : i < 4) (j : Nat) (hj : j < 64) : (W i).toNat.testBit j = m (64 * i + j) := by
  have := h.bit (64 * i + j) (by omega) (by omega)
  rw [show (64 * i + (j : Int)) / 64 = i by omega, show ((64 * i + (j : Int)) % 64).toNat = j by omega] at this
  exact this

theorem word_ext {x y : Int} (hx : inK .u64 x) (hy : inK .u64 y) (h : ∀ j, j < 64 → x.toNat.testBit j = y.toNat.testBit j) : x = y := by
  dsimp only [inK] at hx hy
  have : x.toNat = y.toNat := by
    apply Nat.eq_of_testBit_eq
    intro j
    by_cases hj : j < 64
    · exact h j hj
    · have h64 : (2 : Nat) ^ 64 = 18446744073709551616 := by decide
      have hle : (2 : Nat) ^ 64 ≤ 2 ^ j := Nat.pow_le_pow_right (by decide) (by omega)
      rw [Nat.testBit_lt_two_pow (by omega), Nat.testBit_lt_two_pow (by omega)]
  omega

theorem MW.uniq {W W' : Int → Int} {m : Int → Bool} (h : MW W m) (h' : MW W' m) {i : Int} (h0 : 0 ≤ i) (h1 : i < 4) : W i = W' i :=
  word_ext (h.rng i h0 h1) (h'.rng i h0 h1) fun j hj => by rw [h.word h0 h1 j hj, h'.word h0 h1 j hj]

theorem MW.isZero {W : Int → Int} {m : Int → Bool} (h : MW W m) {i : Int} (h0 : 0 ≤ i) (h1 : i < 4) : W i = 0 ↔ ∀ v, 64 * i ≤ v → v < 64 * i + 64 → m v = false := by
  constructor
  · intro e v g0 g1
    have := h.word h0 h1 (v - 64 * i).toNat (by omega)
    rw [e] at this
    rw [show 64 * i + ((v - 64 * i).toNat : Int) = v by omega] at this
    rw [← this]; simp
  · intro hz
    refine word_ext (h.rng i h0 h1) (by dsimp only [inK]; omega) fun j hj => ?_
    rw [h.word h0 h1 j hj, hz _ (by omega) (by omega)]; simp

theorem bitLenAux_spec : ∀ (f x : Nat), x ≠ 0 → x < 2 ^ f → ∃ n, Lib.bitLenAux f x = n + 1 ∧ n < f ∧ x.testBit n = true ∧ ∀ j, n < j → x.testBit j = false := by
  intro f
  induction f with
  | zero => intro x h0 h1; simp at h1; omega
  | succ f ih =>
    intro x h0 h1
    simp only [Lib.bitLenAux, if_neg h0]
    by_cases h2 : x / 2 = 0
    · refine ⟨0, ?_, by omega, ?_, ?_⟩
      · rw [h2]; cases f <;> simp [Lib.bitLenAux]
      · have : x = 1 := by omega
        subst this; rfl
      · intro j hj
        obtain ⟨i, rfl⟩ : ∃ i, j = i + 1 := ⟨j - 1, by omega⟩
        rw [Nat.testBit_succ, h2]; simp
    · have h3 : x / 2 < 2 ^ f := by rw [Nat.pow_succ] at h1; omega
      obtain ⟨n, e, hn, ht, hz⟩ := ih (x / 2) h2 h3
      refine ⟨n + 1, by omega, by omega, by rw [Nat.testBit_succ]; exact ht, ?_⟩
      intro j hj
      obtain ⟨i, rfl⟩ : ∃ i, j = i + 1 := ⟨j - 1, by omega⟩
      rw [Nat.testBit_succ]; exact hz i (by omega)

/-- The highest flag; -1: there is none. -/
def IsHi (m : Int → Bool) (x : Int) : Prop := (x = -1 ∨ (0 ≤ x ∧ x ≤ 255 ∧ m x = true)) ∧ ∀ v, x < v → 0 ≤ v → v ≤ 255 → m v = false
theorem IsHi.uniq {m : Int → Bool} {x y : Int} (h : IsHi m x) (h' : IsHi m y) : x = y := by
  obtain ⟨h1, h2⟩ := h
  obtain ⟨g1, g2⟩ := h'
  rcases Int.lt_trichotomy x y with h3 | h3 | h3
  · rcases g1 with g1 | ⟨a, b, c⟩
    · omega
    · have := h2 y h3 a b; rw [c] at this; cases this
  · exact h3
  · rcases h1 with g1 | ⟨a, b, c⟩
    · omega
    · have := g2 x h3 a b; rw [c] at this; cases this

/-- The highest flag of a word that is not 0. -/
theorem MW.len {W : Int → Int} {m : Int → Bool} (h : MW W m) {i : Int} (h0 : 0 ≤ i) (h1 : i < 4) (hne : W i ≠ 0) : ∃ n : Int, (Lib.bitLen (W i).toNat : Int) = n + 1 ∧ 0 ≤ n ∧ n < 64 ∧ m (64 * i + n) = true ∧ ∀ v, 64 * i + n < v → v < 64 * i + 64 → m v = false := by
  have hr := h.rng i h0 h1
  dsimp only [inK] at hr
  have h64 : (2 : Nat) ^ 64 = 18446744073709551616 := by decide
  obtain ⟨n, e, hn, ht, hz⟩ := bitLenAux_spec 64 (W i).toNat (by omega) (by omega)
  refine ⟨n, by unfold Lib.bitLen; omega, by omega, by omega, ?_, ?_⟩
  · rw [← h.word h0 h1 n hn]; exact ht
  · intro v g0 g1
    have := h.word h0 h1 (v - 64 * i).toNat (by omega)
    rw [show 64 * i + ((v - 64 * i).toNat : Int) = v by omega] at this
    rw [← this]; exact hz _ (by omega)
end Go.Proofs

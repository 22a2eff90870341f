/- More quiet operations: equality of arrays of numbers. No condition; nothing of any program stands here. -/
import Derived.Test.YtlicnplclfclcaaGxD
import Derived.ChangeKeysEq
import Derived.Lib.BitFns
namespace Go.Gx
open Go

def intV : Value → Int
  | .int _ n => n
  | _ => 0

section
variable {P : Program} {S : World → Prop} {E : Env} {dst : Option Nat} {ty : TypeId} {pos : String} {af : Array Edge} {g : Option (Nat × Bool)}

theorem list_all_eq (xs ys : List Int) (h : xs.length = ys.length) : ((List.range xs.length).all fun i => xs.getD i 0 == ys.getD i 0) = decide (xs = ys) := by
  rw [Bool.eq_iff_iff]
  simp only [List.all_eq_true, List.mem_range, beq_iff_eq, decide_eq_true_eq]
  constructor
  · intro h1
    apply List.ext_getElem h
    intro i g1 g2
    have := h1 i g1
    simpa [List.getD, g1, g2] using this
  · rintro rfl i _; rfl

theorem equal_ints {t len e n : Nat} {k : IntKind} (hT : TI P t (.array len e) n) (hE : TI P e (.int k) 1) {xs ys : List Int} (h1 : xs.length = len) (h2 : ys.length = len) (w : World) :
    (Op.equal t (.agg (xs.map (Value.int k)).toArray) (.agg (ys.map (Value.int k)).toArray)).run P w = .ok (decide (xs = ys)) w := by
  obtain ⟨i, hi, hsz⟩ : ∃ i, P.info? e = some i ∧ i.size = 1 := by
    have := hE.s
    cases hi : P.info? e with
    | none => rw [hi] at this; cases this
    | some i => exact ⟨i, rfl, by rw [hi] at this; simpa using this⟩
  have hc : P.cellsOf e = 1 := by simp [Program.cellsOf, hi, hsz]
  show (Op.equalIn (9999 + 1) t _ _).run P w = _
  rw [run_equalIn_array w 9999 _ _ hT.u hi, ← list_all_eq xs ys (h1.trans h2.symm), h1, hc]
  have hl : ∀ i ∈ List.range len, i < len := fun i hi => List.mem_range.1 hi
  generalize List.range len = is at hl
  induction is with
  | nil => simp [Op.eqItems]
  | cons j is ih =>
    have hj := hl j (by simp)
    have px : (part e (xs.map (Value.int k)).toArray (j * 1)).run P w = .ok (.int k (xs.getD j 0)) w := by
      simp [part, run_isAgg hE, aggB, List.getD, List.getElem?_eq_getElem (show j < xs.length by omega)]
    have py : (part e (ys.map (Value.int k)).toArray (j * 1)).run P w = .ok (.int k (ys.getD j 0)) w := by
      simp [part, run_isAgg hE, aggB, List.getD, List.getElem?_eq_getElem (show j < ys.length by omega)]
    have pe : (Op.equalIn 9999 e (.int k (xs.getD j 0)) (.int k (ys.getD j 0))).run P w = .ok (xs.getD j 0 == ys.getD j 0) w :=
      run_equalIn_int w 9998 e k k _ _ hE.u
    simp only [Op.eqItems, Sem.run_bind, px, py, pe, Result.andThen_ok, List.all_cons]
    cases hb : (xs.getD j 0 == ys.getD j 0)
    · simp
    · simp only [Bool.not_true, Bool.false_eq_true, if_false, Bool.true_and]
      exact ih fun j hj => hl j (by simp [hj])

theorem Qt.eqlA {x y : Operand} {t t' len e n : Nat} {k : IntKind} {cx cy : Array Value} [hT : TI P t (.array len e) n] [hE : TI P e (.int k) 1] (hx : ev E x = some (.agg cx)) (hy : ev E y = some (.agg cy))
    (h1 : cx = ((cx.toList.map intV).map (Value.int k)).toArray) (h2 : cy = ((cy.toList.map intV).map (Value.int k)).toArray) (l1 : cx.toList.length = len) (l2 : cy.toList.length = len) (hg : P.eqGuardType P.depth t = false) :
    Qt P S E ⟨dst, .binOp .eql t x y t', ty, pos, af, g⟩ (.bool (decide (cx.toList.map intV = cy.toList.map intV))) := fun a ha w _ => by
  have h := equal_ints hT hE (xs := cx.toList.map intV) (ys := cy.toList.map intV) (by simpa using l1) (by simpa using l2) w
  rw [← h1, ← h2] at h
  simp [execOp, ha.ev hx, ha.ev hy, binOp, eqGuard, h, hg]

/-- Cells in runs of the same. -/
def zrun (l : List (Nat × Value)) : Array Value := (l.flatMap fun p => List.replicate p.1 p.2).toArray

def zsz : List (Nat × Value) → Nat
  | [] => 0
  | (n, _) :: t => n + zsz t
def zat : List (Nat × Value) → Nat → Option Value
  | [], _ => none
  | (n, v) :: t, k => if k < n then some v else zat t (k - n)
theorem zrun_size : ∀ (l : List (Nat × Value)), (zrun l).size = zsz l
  | [] => rfl
  | (n, v) :: t => by
    have := zrun_size t
    simp only [zrun, List.size_toArray] at this
    simp only [zrun, zsz, List.flatMap_cons, List.size_toArray, List.length_append, List.length_replicate, this]
theorem zrun_get : ∀ (l : List (Nat × Value)) (k : Nat), (zrun l).toList[k]? = zat l k
  | [], k => by simp [zrun, zat]
  | (n, v) :: t, k => by
    have := zrun_get t (k - n)
    simp only [zrun, zat, List.flatMap_cons] at this ⊢
    split
    · rw [List.getElem?_append_left (by simpa using by assumption), List.getElem?_replicate, if_pos (by assumption)]
    · rw [List.getElem?_append_right (by simp; omega), List.length_replicate]; exact this

theorem fill1 {pl : Nat → Option (Nat × Nat)} {c : Array Value} {v : Value} {i off : Nat} (hp : pl i = some (off, 1)) (hv : v.cells = #[v]) (ho : off + 1 ≤ c.size) : Instr.fill pl c [(i, v)] = some (wr c off [v]) := by
  have h : ¬ (1 ≠ 1 ∨ off + 1 > c.size) := by omega
  simp only [Instr.fill, hp, hv]
  simp [wr]
  omega

/-- A shift to the right by a number that is known. -/
theorem Qt.shrD {x y : Operand} {t t' : Nat} {k k' : IntKind} {m n : Int} (d : Int) (hx : ev E x = some (.int k m)) (hy : ev E y = some (.int k' n)) (hn : 0 ≤ n) (hd : (2 : Int) ^ (Min.min n.toNat k.bits) = d) (hd0 : 0 < d) : Qt P S E ⟨dst, .binOp .shr t x y t', ty, pos, af, g⟩ (.int k (m / d)) := by
  have := Qt.shr (P := P) (S := S) (dst := dst) (ty := ty) (pos := pos) (af := af) (g := g) (t := t) (t' := t') hx hy hn
  rw [hd, Int.fdiv_eq_ediv_of_nonneg _ (by omega)] at this
  exact this

/-- The table of the bit lengths of bytes. -/
theorem Qt.ixL8 {x i : Operand} {t n : Nat} {k : IntKind} {m : Int} [hT : TI P t .string n] (hx : ev E x = some (.string Lib.len8tab)) (hi : ev E i = some (.int k m)) (h0 : 0 ≤ m) (h1 : m ≤ 255) : Qt P S E ⟨dst, .index t x i, ty, pos, af, g⟩ (.int .u8 (Lib.len8 m)) := fun a ha w _ => by
  have h := Lib.run_index_len8tab (P := P) w t k m hT.u h0 h1
  simp [execOp, ha.ev hx, ha.ev hi, h]
end
end Go.Gx

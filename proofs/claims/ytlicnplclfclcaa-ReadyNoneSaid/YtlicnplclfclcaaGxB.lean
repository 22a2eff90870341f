/- What each operation of the model does, told for an environment and for memory in pieces: quiet ones (Qt) and those with an effect (Ef). No condition; nothing of any program stands here. -/
import Derived.Test.YtlicnplclfclcaaGxA
import Derived.Test.YtlicnplclfclcaaGxS
namespace Go.Gx
open Go

class TI (P : Program) (t : Nat) (d : outParam TypeDesc) (n : outParam Nat) : Prop where
  u : P.underlying t = some d
  s : (P.info? t).map (·.size) = some n
class TZ (P : Program) (t : Nat) (z : outParam Value) : Prop where
  z : (P.info? t).bind (·.zero) = some z
class TB (P : Program) (t : Nat) (b : outParam Nat) : Prop where
  b : (P.info? t).map (·.bytes) = some b

def aggB : TypeDesc → Bool
  | .struct _ => true
  | .array _ _ => true
  | _ => false
class FD (P : Program) (s f : Nat) (off : outParam Nat) (ag : outParam Bool) (n : outParam Nat) : Prop where
  fd : ∃ fs fd df, P.underlying s = some (.struct fs) ∧ fs[f]? = some fd ∧ fd.offset = off ∧ P.underlying fd.type = some df ∧ aggB df = ag ∧ (P.info? fd.type).map (·.size) = some n

section
variable {P : Program}
theorem run_underlying {t : Nat} {d : TypeDesc} {n : Nat} (h : TI P t d n) (w : World) : (underlying t).run P w = .ok d w := by
  simp [underlying, program, Sem.run, h.u, pure, bind, Sem.bind]
theorem run_typeInfo {t : Nat} {i : TypeInfo} (h : P.info? t = some i) (w : World) : (typeInfo t).run P w = .ok i w := by
  simp [typeInfo, program, Sem.run, h, pure, bind, Sem.bind]
theorem run_sizeOf {t : Nat} {d : TypeDesc} {n : Nat} (h : TI P t d n) (w : World) : (sizeOf t).run P w = .ok n w := by
  have hs := h.s
  cases hi : P.info? t with
  | none => rw [hi] at hs; cases hs
  | some i =>
    rw [hi] at hs
    simp only [Option.map_some, Option.some.injEq] at hs
    unfold sizeOf
    rw [Sem.run_bind, run_typeInfo hi]
    simp [hs]
theorem run_zeroValue {t : Nat} {z : Value} (h : TZ P t z) (w : World) : (zeroValue t).run P w = .ok z w := by
  have hs := h.z
  cases hi : P.info? t with
  | none => rw [hi] at hs; cases hs
  | some i =>
    rw [hi] at hs
    simp only [Option.bind_some] at hs
    unfold zeroValue
    rw [Sem.run_bind, run_typeInfo hi]
    simp [hs]
theorem run_isAgg {t : Nat} {d : TypeDesc} {n : Nat} (h : TI P t d n) (w : World) : (isAgg t).run P w = .ok (aggB d) w := by
  unfold isAgg
  rw [Sem.run_bind, run_underlying h]
  cases d <;> simp [aggB]

variable {S : World → Prop} {E : Env} {dst : Option Nat} {ty : TypeId} {pos : String} {af : Array Edge} {g : Option (Nat × Bool)}

theorem equal_bool {t n : Nat} {b c : Bool} (hT : TI P t .bool n) (w : World) : (Op.equal t (.bool b) (.bool c)).run P w = .ok (b == c) w := by
  show (Op.equalIn (9999 + 1) t (.bool b) (.bool c)).run P w = _
  unfold Op.equalIn
  rw [Sem.run_bind, run_underlying hT]
  simp
theorem equal_ptr {t e n : Nat} {p : Option Addr} (hT : TI P t (.pointer e) n) (w : World) : (Op.equal t (.pointer p) (.pointer none)).run P w = .ok p.isNone w := by
  show (Op.equalIn (9999 + 1) t (.pointer p) (.pointer none)).run P w = _
  unfold Op.equalIn
  rw [Sem.run_bind, run_underlying hT]
  cases p <;> simp
theorem equal_sl {t e n l c l' c' : Nat} {p : Option Addr} (hT : TI P t (.slice e) n) (w : World) : (Op.equal t (.slice p l c) (.slice none l' c')).run P w = .ok p.isNone w := by
  show (Op.equalIn (9999 + 1) t (.slice p l c) (.slice none l' c')).run P w = _
  unfold Op.equalIn
  rw [Sem.run_bind, run_underlying hT]
  cases p <;> simp

/-! ### quiet -/
theorem Qt.mv {x : Operand} {v : Value} (hx : ev E x = some v) : Qt P S E ⟨dst, .move x, ty, pos, af, g⟩ v := fun a ha w _ => by
  simp [execOp, ha.ev hx]
theorem Qt.as {x : Operand} {v : Value} (hx : ev E x = some v) : Qt P S E ⟨dst, .assign x, ty, pos, af, g⟩ v := fun a ha w _ => by
  simp [execOp, ha.ev hx]
theorem Qt.pickT {c x y : Operand} {t : Bool} {v : Value} (hc : ev E c = some (.bool t)) (ht : t = true) (hx : ev E x = some v) : Qt P S E ⟨dst, .pick c x y, ty, pos, af, g⟩ v := fun a ha w _ => by
  simp [execOp, ha.ev hx, ha.ev hc, asBool, ht]
theorem Qt.pickF {c x y : Operand} {t : Bool} {v : Value} (hc : ev E c = some (.bool t)) (ht : t = false) (hx : ev E y = some v) : Qt P S E ⟨dst, .pick c x y, ty, pos, af, g⟩ v := fun a ha w _ => by
  simp [execOp, ha.ev hx, ha.ev hc, asBool, ht]
theorem Qt.nil {x : Operand} {p : Addr} (hx : ev E x = some (.pointer (some p))) : Qt P S E ⟨dst, .nilCheck x, ty, pos, af, g⟩ (.pointer (some p)) := fun a ha w _ => by
  simp [execOp, ha.ev hx]
theorem Qt.ext {x : Operand} {vs : Array Value} {i : Nat} {v : Value} (hx : ev E x = some (.tuple vs)) (hv : vs.toList[i]? = some v) : Qt P S E ⟨dst, .extract x i, ty, pos, af, g⟩ v := fun a ha w _ => by
  have hv : vs[i]? = some v := by simpa using hv
  simp [execOp, ha.ev hx, Instr.extract, hv]
theorem Qt.mkf {fn : Fn} : Qt P S E ⟨dst, .makeFunc fn #[] #[], ty, pos, af, g⟩ (.func fn #[] #[]) := fun a ha w _ => by
  simp [execOp, Instr.makeFunc]
theorem Qt.mkf1 {fn : Fn} {x : Operand} {v : Value} (hx : ev E x = some v) : Qt P S E ⟨dst, .makeFunc fn #[] #[x], ty, pos, af, g⟩ (.func fn #[] #[v]) := fun a ha w _ => by
  simp [execOp, Instr.makeFunc, ha.ev hx]
theorem Qt.mkf2 {fn : Fn} {x y : Operand} {v u : Value} (hx : ev E x = some v) (hy : ev E y = some u) : Qt P S E ⟨dst, .makeFunc fn #[] #[x, y], ty, pos, af, g⟩ (.func fn #[] #[v, u]) := fun a ha w _ => by
  simp [execOp, Instr.makeFunc, ha.ev hx, ha.ev hy]
theorem Qt.not {x : Operand} {t : Nat} {b : Bool} (hx : ev E x = some (.bool b)) : Qt P S E ⟨dst, .unOp .not t x, ty, pos, af, g⟩ (.bool !b) := fun a ha w _ => by
  simp [execOp, ha.ev hx, Op.unary]

theorem Qt.add {x y : Operand} {t t' : Nat} {k : IntKind} {m n : Int} (hx : ev E x = some (.int k m)) (hy : ev E y = some (.int k n)) : Qt P S E ⟨dst, .binOp .add t x y t', ty, pos, af, g⟩ (.int k (k.wrap (m + n))) := fun a ha w _ => by
  simp [execOp, ha.ev hx, ha.ev hy, eqGuard, binOp, Op.intArith]
theorem Qt.sub {x y : Operand} {t t' : Nat} {k : IntKind} {m n : Int} (hx : ev E x = some (.int k m)) (hy : ev E y = some (.int k n)) : Qt P S E ⟨dst, .binOp .sub t x y t', ty, pos, af, g⟩ (.int k (k.wrap (m - n))) := fun a ha w _ => by
  simp [execOp, ha.ev hx, ha.ev hy, eqGuard, binOp, Op.intArith]
theorem Qt.mul {x y : Operand} {t t' : Nat} {k : IntKind} {m n : Int} (hx : ev E x = some (.int k m)) (hy : ev E y = some (.int k n)) : Qt P S E ⟨dst, .binOp .mul t x y t', ty, pos, af, g⟩ (.int k (k.wrap (m * n))) := fun a ha w _ => by
  simp [execOp, ha.ev hx, ha.ev hy, eqGuard, binOp, Op.intArith]
theorem Qt.quo {x y : Operand} {t t' : Nat} {k : IntKind} {m n : Int} (hx : ev E x = some (.int k m)) (hy : ev E y = some (.int k n)) (hn : n ≠ 0) : Qt P S E ⟨dst, .binOp .quo t x y t', ty, pos, af, g⟩ (.int k (k.wrap (m.tdiv n))) := fun a ha w _ => by
  simp [execOp, ha.ev hx, ha.ev hy, eqGuard, binOp, Op.intDiv, hn]
theorem Qt.rem {x y : Operand} {t t' : Nat} {k : IntKind} {m n : Int} (hx : ev E x = some (.int k m)) (hy : ev E y = some (.int k n)) (hn : n ≠ 0) : Qt P S E ⟨dst, .binOp .rem t x y t', ty, pos, af, g⟩ (.int k (m.tmod n)) := fun a ha w _ => by
  simp [execOp, ha.ev hx, ha.ev hy, eqGuard, binOp, Op.intDiv, hn]
theorem Qt.and {x y : Operand} {t t' : Nat} {k : IntKind} {m n : Int} (hx : ev E x = some (.int k m)) (hy : ev E y = some (.int k n)) : Qt P S E ⟨dst, .binOp .and t x y t', ty, pos, af, g⟩ (.int k (k.wrap (BitVec.ofInt k.bits m &&& BitVec.ofInt k.bits n).toNat)) := fun a ha w _ => by
  simp [execOp, ha.ev hx, ha.ev hy, eqGuard, binOp, Op.intBits]
theorem Qt.or {x y : Operand} {t t' : Nat} {k : IntKind} {m n : Int} (hx : ev E x = some (.int k m)) (hy : ev E y = some (.int k n)) : Qt P S E ⟨dst, .binOp .or t x y t', ty, pos, af, g⟩ (.int k (k.wrap (BitVec.ofInt k.bits m ||| BitVec.ofInt k.bits n).toNat)) := fun a ha w _ => by
  simp [execOp, ha.ev hx, ha.ev hy, eqGuard, binOp, Op.intBits]
theorem Qt.xor {x y : Operand} {t t' : Nat} {k : IntKind} {m n : Int} (hx : ev E x = some (.int k m)) (hy : ev E y = some (.int k n)) : Qt P S E ⟨dst, .binOp .xor t x y t', ty, pos, af, g⟩ (.int k (k.wrap (BitVec.ofInt k.bits m ^^^ BitVec.ofInt k.bits n).toNat)) := fun a ha w _ => by
  simp [execOp, ha.ev hx, ha.ev hy, eqGuard, binOp, Op.intBits]
theorem Qt.andNot {x y : Operand} {t t' : Nat} {k : IntKind} {m n : Int} (hx : ev E x = some (.int k m)) (hy : ev E y = some (.int k n)) : Qt P S E ⟨dst, .binOp .andNot t x y t', ty, pos, af, g⟩ (.int k (k.wrap (BitVec.ofInt k.bits m &&& ~~~ BitVec.ofInt k.bits n).toNat)) := fun a ha w _ => by
  simp [execOp, ha.ev hx, ha.ev hy, eqGuard, binOp, Op.intBits]
theorem Qt.shl {x y : Operand} {t t' : Nat} {k k' : IntKind} {m n : Int} (hx : ev E x = some (.int k m)) (hy : ev E y = some (.int k' n)) (hn : 0 ≤ n) : Qt P S E ⟨dst, .binOp .shl t x y t', ty, pos, af, g⟩ (.int k (k.wrap (m * 2 ^ min n.toNat k.bits))) := fun a ha w _ => by
  have : ¬ n < 0 := by omega
  simp [execOp, ha.ev hx, ha.ev hy, eqGuard, binOp, Op.shift, this]
theorem Qt.shr {x y : Operand} {t t' : Nat} {k k' : IntKind} {m n : Int} (hx : ev E x = some (.int k m)) (hy : ev E y = some (.int k' n)) (hn : 0 ≤ n) : Qt P S E ⟨dst, .binOp .shr t x y t', ty, pos, af, g⟩ (.int k (m.fdiv (2 ^ min n.toNat k.bits))) := fun a ha w _ => by
  have : ¬ n < 0 := by omega
  simp [execOp, ha.ev hx, ha.ev hy, eqGuard, binOp, Op.shift, this]
theorem Qt.lss {x y : Operand} {t t' : Nat} {k : IntKind} {m n : Int} (hx : ev E x = some (.int k m)) (hy : ev E y = some (.int k n)) : Qt P S E ⟨dst, .binOp .lss t x y t', ty, pos, af, g⟩ (.bool (decide (m < n))) := fun a ha w _ => by
  simp [execOp, ha.ev hx, ha.ev hy, eqGuard, binOp, Op.intCmp]
theorem Qt.leq {x y : Operand} {t t' : Nat} {k : IntKind} {m n : Int} (hx : ev E x = some (.int k m)) (hy : ev E y = some (.int k n)) : Qt P S E ⟨dst, .binOp .leq t x y t', ty, pos, af, g⟩ (.bool (decide (m ≤ n))) := fun a ha w _ => by
  simp [execOp, ha.ev hx, ha.ev hy, eqGuard, binOp, Op.intCmp]
theorem Qt.gtr {x y : Operand} {t t' : Nat} {k : IntKind} {m n : Int} (hx : ev E x = some (.int k m)) (hy : ev E y = some (.int k n)) : Qt P S E ⟨dst, .binOp .gtr t x y t', ty, pos, af, g⟩ (.bool (decide (m > n))) := fun a ha w _ => by
  simp [execOp, ha.ev hx, ha.ev hy, eqGuard, binOp, Op.intCmp]
theorem Qt.geq {x y : Operand} {t t' : Nat} {k : IntKind} {m n : Int} (hx : ev E x = some (.int k m)) (hy : ev E y = some (.int k n)) : Qt P S E ⟨dst, .binOp .geq t x y t', ty, pos, af, g⟩ (.bool (decide (m ≥ n))) := fun a ha w _ => by
  simp [execOp, ha.ev hx, ha.ev hy, eqGuard, binOp, Op.intCmp]
theorem Qt.eql {x y : Operand} {t t' : Nat} {k : IntKind} {m n : Int} (hx : ev E x = some (.int k m)) (hy : ev E y = some (.int k n)) : Qt P S E ⟨dst, .binOp .eql t x y t', ty, pos, af, g⟩ (.bool (decide (m = n))) := fun a ha w _ => by
  simp [execOp, ha.ev hx, ha.ev hy, eqGuard, binOp, Op.intCmp]; rfl
theorem Qt.neq {x y : Operand} {t t' : Nat} {k : IntKind} {m n : Int} (hx : ev E x = some (.int k m)) (hy : ev E y = some (.int k n)) : Qt P S E ⟨dst, .binOp .neq t x y t', ty, pos, af, g⟩ (.bool (decide (m ≠ n))) := fun a ha w _ => by
  simp [execOp, ha.ev hx, ha.ev hy, eqGuard, binOp, Op.intCmp]
  by_cases h : m = n <;> simp [h]
theorem Qt.eqlB {x y : Operand} {t t' : Nat} {n : Nat} {b c : Bool} [hT : TI P t .bool n] (hx : ev E x = some (.bool b)) (hy : ev E y = some (.bool c)) : Qt P S E ⟨dst, .binOp .eql t x y t', ty, pos, af, g⟩ (.bool (decide (b = c))) := fun a ha w _ => by
  simp [execOp, ha.ev hx, ha.ev hy, binOp, eqGuard, equal_bool hT]; cases b <;> cases c <;> rfl
theorem Qt.neqB {x y : Operand} {t t' : Nat} {n : Nat} {b c : Bool} [hT : TI P t .bool n] (hx : ev E x = some (.bool b)) (hy : ev E y = some (.bool c)) : Qt P S E ⟨dst, .binOp .neq t x y t', ty, pos, af, g⟩ (.bool (decide (b ≠ c))) := fun a ha w _ => by
  simp [execOp, ha.ev hx, ha.ev hy, binOp, eqGuard, equal_bool hT]; cases b <;> cases c <;> rfl
theorem Qt.eqlN {x y : Operand} {t t' e n : Nat} {p : Option Addr} [hT : TI P t (.pointer e) n] (hx : ev E x = some (.pointer p)) (hy : ev E y = some (.pointer none)) : Qt P S E ⟨dst, .binOp .eql t x y t', ty, pos, af, g⟩ (.bool p.isNone) := fun a ha w _ => by
  simp [execOp, ha.ev hx, ha.ev hy, binOp, eqGuard, equal_ptr hT]
theorem Qt.neqN {x y : Operand} {t t' e n : Nat} {p : Option Addr} [hT : TI P t (.pointer e) n] (hx : ev E x = some (.pointer p)) (hy : ev E y = some (.pointer none)) : Qt P S E ⟨dst, .binOp .neq t x y t', ty, pos, af, g⟩ (.bool p.isSome) := fun a ha w _ => by
  simp [execOp, ha.ev hx, ha.ev hy, binOp, eqGuard, equal_ptr hT]
theorem Qt.eqlS {x y : Operand} {t t' e n : Nat} {p : Option Addr} {l c l' c' : Nat} [hT : TI P t (.slice e) n] (hx : ev E x = some (.slice p l c)) (hy : ev E y = some (.slice none l' c')) : Qt P S E ⟨dst, .binOp .eql t x y t', ty, pos, af, g⟩ (.bool p.isNone) := fun a ha w _ => by
  simp [execOp, ha.ev hx, ha.ev hy, binOp, eqGuard, equal_sl hT]
theorem Qt.cvt {x : Operand} {s d ns nd : Nat} {k k' : IntKind} {m : Int} [hs : TI P s (.int k') ns] [hd : TI P d (.int k) nd] (hx : ev E x = some (.int k' m)) : Qt P S E ⟨dst, .convert s d x, ty, pos, af, g⟩ (.int k (k.wrap m)) := fun a ha w _ => by
  simp [execOp, ha.ev hx, convert, run_underlying hs, run_underlying hd, Conv.intToInt]

theorem Qt.fld {s : Nat} {x : Operand} {f off n b o : Nat} {ag : Bool} (hx : ev E x = some (.pointer (some ⟨b, o, none⟩))) [hd : FD P s f off ag n] (hn : Nat.beq n 0 = false := by rfl) :
    Qt P S E ⟨dst, .fieldAddr s x f, ty, pos, af, g⟩ (.pointer (some ⟨b, o + off, none⟩)) := fun a ha w _ => by
  obtain ⟨fs, fd, df, h1, h2, rfl, h4, h5, h6⟩ := hd.fd
  have hn' : n ≠ 0 := by intro e; subst e; simp at hn
  have hu : (underlying s).run P w = .ok (.struct fs) w := by simp [underlying, program, Sem.run, h1, pure, bind, Sem.bind]
  simp [execOp, ha.ev hx, Instr.fieldAt, hu, h2, Instr.sureAddr, fieldPlace, run_sizeOf (P := P) ⟨h4, h6⟩, hn', Addr.add]

theorem Qt.ixA {t : Nat} {x i : Operand} {len e n ne b o : Nat} {k : IntKind} {m : Int} {de : TypeDesc} [ht : TI P t (.array len e) n] [he : TI P e de ne] (hx : ev E x = some (.pointer (some ⟨b, o, none⟩))) (hi : ev E i = some (.int k m)) (h0 : 0 ≤ m) (h1 : m < len) :
    Qt P S E ⟨dst, .indexAddr t x i, ty, pos, af, g⟩ (.pointer (some ⟨b, o + m.toNat * ne, none⟩)) := fun a ha w _ => by
  simp [execOp, ha.ev hx, ha.ev hi, Instr.indexAt, asIntOf, run_underlying ht, Instr.sureAddr, h0, h1, run_sizeOf he, Addr.add]
  try (by_cases h : m.toNat = 0 ∨ ne = 0
       · rcases h with h | h <;> simp [h]
       · have h' : ¬ (m ≤ 0 ∨ ne = 0) := by omega
         simp [h'])
theorem Qt.ixS {t : Nat} {x i : Operand} {len cap e n ne b o : Nat} {k : IntKind} {m : Int} {de : TypeDesc} [ht : TI P t (.slice e) n] [he : TI P e de ne] (hx : ev E x = some (.slice (some ⟨b, o, none⟩) len cap)) (hi : ev E i = some (.int k m)) (h0 : 0 ≤ m) (h1 : m < len) :
    Qt P S E ⟨dst, .indexAddr t x i, ty, pos, af, g⟩ (.pointer (some ⟨b, o + m.toNat * ne, none⟩)) := fun a ha w _ => by
  simp [execOp, ha.ev hx, ha.ev hi, Instr.indexAt, asIntOf, run_underlying ht, h0, h1, run_sizeOf he, Addr.add]
  try (by_cases h : m.toNat = 0 ∨ ne = 0
       · rcases h with h | h <;> simp [h]
       · have h' : ¬ (m ≤ 0 ∨ ne = 0) := by omega
         simp [h'])

theorem cell_of {w : World} {b off : Nat} {c : Array Value} {T : TypeId} {fz : Nat × Nat} (h : w.heap[b]? = some (.cells c T fz)) : w.cell? ⟨b, off, none⟩ = c[off]? := by
  simp [World.cell?, h]

theorem Qt.ld {t : Nat} {x : Operand} {b off n : Nat} {d : TypeDesc} {c : Array Value} {T : TypeId} {fz : Nat × Nat} {v : Value} [ht : TI P t d n] (hx : ev E x = some (.pointer (some ⟨b, off, none⟩)))
    (hw : ∀ w, S w → w.heap[b]? = some (.cells c T fz)) (hv : c.toList[off]? = some v) (hd : aggB d = false := by rfl) : Qt P S E ⟨dst, .load t x, ty, pos, af, g⟩ v := fun a ha w hS => by
  have hv : c[off]? = some v := by simpa using hv
  have hc : w.cell? ⟨b, off, none⟩ = some v := (cell_of (hw w hS)).trans hv
  simp [execOp, ha.ev hx, Instr.loadAt, Instr.sureAddr, loadVar, run_isAgg ht, hd, hc]

theorem run_loadCellsFrom {w : World} {b : Nat} {c : Array Value} {T : TypeId} {fz : Nat × Nat} (h : w.heap[b]? = some (.cells c T fz)) (off : Nat) : ∀ (n i : Nat) (acc : Array Value), off + i + n ≤ c.size →
    (loadCellsFrom ⟨b, off, none⟩ i n acc).run P w = .ok (acc ++ c.extract (off + i) (off + i + n)) w := by
  intro n
  induction n with
  | zero =>
    intro i acc _
    have : c.extract (off + i) (off + i) = #[] := by apply Array.ext'; simp
    simp [loadCellsFrom, this]
  | succ n ih =>
    intro i acc hle
    have hlt : off + i < c.size := by omega
    have hadd : (⟨b, off, none⟩ : Addr).add i = ⟨b, off + i, none⟩ := by
      unfold Addr.add
      by_cases h0 : i = 0 <;> simp [h0]
    have hc : w.cell? ⟨b, off + i, none⟩ = some c[off + i] := by rw [cell_of h]; simp [hlt]
    simp only [loadCellsFrom, Sem.run_bind, hadd, run_load, hc, Result.andThen_ok]
    rw [ih (i + 1) _ (by omega)]
    congr 1
    apply Array.ext'
    simp only [Array.toList_append, Array.toList_push, Array.toList_extract, List.append_assoc, List.extract_eq_take_drop]
    congr 1
    rw [show off + (i + 1) + n - (off + (i + 1)) = n by omega, show off + i + (n + 1) - (off + i) = n + 1 by omega, show off + (i + 1) = off + i + 1 by omega]
    rw [List.singleton_append]
    have hd : List.drop (off + i) c.toList = c[off + i] :: List.drop (off + i + 1) c.toList := by
      rw [List.drop_eq_getElem_cons (by simpa using hlt)]; simp
    rw [hd, List.take_succ_cons]

theorem Qt.ldA {t : Nat} {x : Operand} {b off n : Nat} {d : TypeDesc} {c : Array Value} {T : TypeId} {fz : Nat × Nat} {cs : Array Value} [ht : TI P t d n] (hx : ev E x = some (.pointer (some ⟨b, off, none⟩)))
    (hw : ∀ w, S w → w.heap[b]? = some (.cells c T fz)) (hv : c.extract off (off + n) = cs) (hle : off + n ≤ c.size) (hd : aggB d = true := by rfl) : Qt P S E ⟨dst, .load t x, ty, pos, af, g⟩ (.agg cs) := fun a ha w hS => by
  have := run_loadCellsFrom (P := P) (hw w hS) off n 0 #[] (by omega)
  simp only [Nat.add_zero, Array.empty_append, hv] at this
  simp [execOp, ha.ev hx, Instr.loadAt, Instr.sureAddr, loadVar, run_isAgg ht, hd, run_sizeOf ht, loadCells, this]

theorem Qt.fdA {t : Nat} {x : Operand} {f off n : Nat} {cs : Array Value} {v : Value} (hx : ev E x = some (.agg cs)) [hd : FD P t f off false n] (hv : cs.toList[off]? = some v) :
    Qt P S E ⟨dst, .field t x f, ty, pos, af, g⟩ v := fun a ha w _ => by
  have hv : cs[off]? = some v := by simpa using hv
  obtain ⟨fs, fd, df, h1, h2, rfl, h4, h5, h6⟩ := hd.fd
  have hu : (underlying t).run P w = .ok (.struct fs) w := by simp [underlying, program, Sem.run, h1, pure, bind, Sem.bind]
  simp [execOp, ha.ev hx, Instr.field, hu, h2, asAgg, part, run_isAgg (P := P) ⟨h4, h6⟩, h5, hv]
theorem Qt.fdB {t : Nat} {x : Operand} {f off n : Nat} {cs : Array Value} {v : Array Value} (hx : ev E x = some (.agg cs)) [hd : FD P t f off true n] (hv : cs.extract off (off + n) = v) :
    Qt P S E ⟨dst, .field t x f, ty, pos, af, g⟩ (.agg v) := fun a ha w _ => by
  obtain ⟨fs, fd, df, h1, h2, rfl, h4, h5, h6⟩ := hd.fd
  have hu : (underlying t).run P w = .ok (.struct fs) w := by simp [underlying, program, Sem.run, h1, pure, bind, Sem.bind]
  simp [execOp, ha.ev hx, Instr.field, hu, h2, asAgg, part, run_isAgg (P := P) ⟨h4, h6⟩, h5, hv, run_sizeOf (P := P) ⟨h4, h6⟩]
theorem Qt.ixV {t : Nat} {x i : Operand} {len e n ne : Nat} {k : IntKind} {m : Int} {de : TypeDesc} {cs : Array Value} {v : Value} [ht : TI P t (.array len e) n] [he : TI P e de ne] (hx : ev E x = some (.agg cs)) (hi : ev E i = some (.int k m)) (h0 : 0 ≤ m) (h1 : m < len) (hv : cs.toList[m.toNat * ne]? = some v) (hn : aggB de = false := by rfl) :
    Qt P S E ⟨dst, .index t x i, ty, pos, af, g⟩ v := fun a ha w _ => by
  have hv : cs[m.toNat * ne]? = some v := by simpa using hv
  simp [execOp, ha.ev hx, ha.ev hi, Instr.index, asIntOf, run_underlying ht, h0, h1, run_sizeOf he, part, run_isAgg he, hn, hv]

theorem Qt.lenS {x : Operand} {t n e l c : Nat} {p : Option Addr} [ht : TI P t (.slice e) n] (hx : ev E x = some (.slice p l c)) :
    Qt P S E ⟨dst, .call ⟨.builtin .len, #[x], #[t]⟩, ty, pos, af, g⟩ (.int .i64 l) := fun a ha w _ => by
  simp [execOp, resolve, invoke, builtin, Builtin.len_, ha.ev hx, run_underlying ht, goInt]

theorem Qt.slHi {x i : Operand} {t n e l c : Nat} {p : Option Addr} {k : IntKind} {m : Int} {ne : Nat} {de : TypeDesc} [ht : TI P t (.slice e) n] [he : TI P e de ne] (hx : ev E x = some (.slice p l c)) (hi : ev E i = some (.int k m)) (h0 : 0 ≤ m) (h1 : m ≤ c) :
    Qt P S E ⟨dst, .slice t x none (some i) none, ty, pos, af, g⟩ (.slice p m.toNat c) := fun a ha w _ => by
  simp [execOp, ha.ev hx, ha.ev hi, Instr.sliceAt, Instr.slice, run_underlying ht, Instr.sliceBounds, Instr.sliceBound, asIntOf, h0, h1, run_sizeOf he]
  by_cases hc : c = 0
  · simp [hc]
  · cases p <;> simp [hc, Addr.add]

theorem Qt.slLo {x i : Operand} {t n e l c b o : Nat} {k : IntKind} {m : Int} {ne : Nat} {de : TypeDesc} [ht : TI P t (.slice e) n] [he : TI P e de ne] (hx : ev E x = some (.slice (some ⟨b, o, none⟩) l c)) (hi : ev E i = some (.int k m)) (h0 : 0 ≤ m) (h1 : m ≤ l) :
    Qt P S E ⟨dst, .slice t x (some i) none none, ty, pos, af, g⟩ (.slice (some ⟨b, if c = m.toNat then o else o + m.toNat * ne, none⟩) (l - m.toNat) (c - m.toNat)) := fun a ha w _ => by
  simp [execOp, ha.ev hx, ha.ev hi, Instr.sliceAt, Instr.slice, run_underlying ht, Instr.sliceBounds, Instr.sliceBound, asIntOf, h0, h1, run_sizeOf he]
  by_cases hc : c = m.toNat
  · simp [hc]
  · simp [hc, Addr.add]

def inK : IntKind → Int → Prop
  | .i8, n => -128 ≤ n ∧ n ≤ 127
  | .i16, n => -32768 ≤ n ∧ n ≤ 32767
  | .i32, n => -2147483648 ≤ n ∧ n ≤ 2147483647
  | .i64, n => -9223372036854775808 ≤ n ∧ n ≤ 9223372036854775807
  | .u8, n => 0 ≤ n ∧ n ≤ 255
  | .u16, n => 0 ≤ n ∧ n ≤ 65535
  | .u32, n => 0 ≤ n ∧ n ≤ 4294967295
  | .u64, n => 0 ≤ n ∧ n ≤ 18446744073709551615
theorem wrap_in {k : IntKind} {n : Int} (h : inK k n) : k.wrap n = n := by
  cases k
  · exact IntWalk.i8_in n h
  · exact IntWalk.i16_in n h
  · exact IntWalk.i32_in n h
  · exact IntWalk.i64_in n h
  · exact IntWalk.u8_in n h
  · exact IntWalk.u16_in n h
  · exact IntWalk.u32_in n h
  · exact IntWalk.u64_in n h
theorem inK_le {k : IntKind} {m n : Int} (h : inK k m) (h0 : 0 ≤ n) (h1 : n ≤ m) : inK k n := by
  cases k <;> simp only [inK] at h ⊢ <;> omega
theorem Qt.addI {x y : Operand} {t t' : Nat} {k : IntKind} {m n : Int} (hx : ev E x = some (.int k m)) (hy : ev E y = some (.int k n)) (h : inK k (m + n)) : Qt P S E ⟨dst, .binOp .add t x y t', ty, pos, af, g⟩ (.int k (m + n)) := by
  have := Qt.add (P := P) (S := S) (dst := dst) (ty := ty) (pos := pos) (af := af) (g := g) (t := t) (t' := t') hx hy
  rwa [wrap_in h] at this
theorem Qt.subI {x y : Operand} {t t' : Nat} {k : IntKind} {m n : Int} (hx : ev E x = some (.int k m)) (hy : ev E y = some (.int k n)) (h : inK k (m - n)) : Qt P S E ⟨dst, .binOp .sub t x y t', ty, pos, af, g⟩ (.int k (m - n)) := by
  have := Qt.sub (P := P) (S := S) (dst := dst) (ty := ty) (pos := pos) (af := af) (g := g) (t := t) (t' := t') hx hy
  rwa [wrap_in h] at this
theorem Qt.mulI {x y : Operand} {t t' : Nat} {k : IntKind} {m n : Int} (hx : ev E x = some (.int k m)) (hy : ev E y = some (.int k n)) (h : inK k (m * n)) : Qt P S E ⟨dst, .binOp .mul t x y t', ty, pos, af, g⟩ (.int k (m * n)) := by
  have := Qt.mul (P := P) (S := S) (dst := dst) (ty := ty) (pos := pos) (af := af) (g := g) (t := t) (t' := t') hx hy
  rwa [wrap_in h] at this
theorem Qt.quoI {x y : Operand} {t t' : Nat} {k : IntKind} {m n : Int} (hx : ev E x = some (.int k m)) (hy : ev E y = some (.int k n)) (h : inK k m) (h0 : 0 ≤ m ∧ 1 ≤ n) : Qt P S E ⟨dst, .binOp .quo t x y t', ty, pos, af, g⟩ (.int k (m / n)) := by
  have := Qt.quo (P := P) (S := S) (dst := dst) (ty := ty) (pos := pos) (af := af) (g := g) (t := t) (t' := t') hx hy (by omega)
  obtain ⟨h1, h2⟩ := IntWalk.tdiv_le m n h0.1 h0.2
  rw [Int.tdiv_eq_ediv_of_nonneg h0.1] at this
  rwa [wrap_in (inK_le h h1 h2)] at this
theorem Qt.remI {x y : Operand} {t t' : Nat} {k : IntKind} {m n : Int} (hx : ev E x = some (.int k m)) (hy : ev E y = some (.int k n)) (h0 : 0 ≤ m ∧ 1 ≤ n) : Qt P S E ⟨dst, .binOp .rem t x y t', ty, pos, af, g⟩ (.int k (m % n)) := by
  have := Qt.rem (P := P) (S := S) (dst := dst) (ty := ty) (pos := pos) (af := af) (g := g) (t := t) (t' := t') hx hy (by omega)
  rwa [Int.tmod_eq_emod_of_nonneg h0.1] at this
theorem Qt.cvtI {x : Operand} {s d ns nd : Nat} {k k' : IntKind} {m : Int} [hs : TI P s (.int k') ns] [hd : TI P d (.int k) nd] (hx : ev E x = some (.int k' m)) (h : inK k m) : Qt P S E ⟨dst, .convert s d x, ty, pos, af, g⟩ (.int k m) := by
  have := Qt.cvt (P := P) (S := S) (E := E) (dst := dst) (ty := ty) (pos := pos) (af := af) (g := g) (s := s) (d := d) hx
  rwa [wrap_in h] at this
theorem Qt.max {x y : Operand} {k : IntKind} {m n : Int} {rt : Array TypeId} (hx : ev E x = some (.int k m)) (hy : ev E y = some (.int k n)) : Qt P S E ⟨dst, .call ⟨.builtin .max, #[x, y], rt⟩, ty, pos, af, g⟩ (.int k (Max.max m n)) := fun a ha w _ => by
  have e : (if n > m then n else m) = Max.max m n := by omega
  simp [execOp, resolve, invoke, builtin, Builtin.max_, Builtin.max2, ha.ev hx, ha.ev hy, e]
theorem Qt.min {x y : Operand} {k : IntKind} {m n : Int} {rt : Array TypeId} (hx : ev E x = some (.int k m)) (hy : ev E y = some (.int k n)) : Qt P S E ⟨dst, .call ⟨.builtin .min, #[x, y], rt⟩, ty, pos, af, g⟩ (.int k (Min.min m n)) := fun a ha w _ => by
  have e : (if n < m then n else m) = Min.min m n := by omega
  simp [execOp, resolve, invoke, builtin, Builtin.min_, Builtin.min2, ha.ev hx, ha.ev hy, e]

@[simp] theorem cells_int (k : IntKind) (n : Int) : (Value.int k n).cells.toList = [.int k n] := rfl
@[simp] theorem cells_bool (b : Bool) : (Value.bool b).cells.toList = [.bool b] := rfl
@[simp] theorem cells_ptr (p : Option Addr) : (Value.pointer p).cells.toList = [.pointer p] := rfl
@[simp] theorem cells_slice (p : Option Addr) (l c : Nat) : (Value.slice p l c).cells.toList = [.slice p l c] := rfl
@[simp] theorem cells_map (p : Option Nat) : (Value.map p).cells.toList = [.map p] := rfl
@[simp] theorem cells_func (f : Fn) (x y : Array Value) : (Value.func f x y).cells.toList = [.func f x y] := rfl
@[simp] theorem cells_agg (x : Array Value) : (Value.agg x).cells.toList = x.toList := rfl
@[simp] theorem cells_int' (k : IntKind) (n : Int) : (Value.int k n).cells = #[.int k n] := rfl
@[simp] theorem cells_bool' (b : Bool) : (Value.bool b).cells = #[.bool b] := rfl
@[simp] theorem cells_ptr' (p : Option Addr) : (Value.pointer p).cells = #[.pointer p] := rfl
@[simp] theorem cells_slice' (p : Option Addr) (l c : Nat) : (Value.slice p l c).cells = #[.slice p l c] := rfl
@[simp] theorem cells_map' (p : Option Nat) : (Value.map p).cells = #[.map p] := rfl
@[simp] theorem cells_func' (f : Fn) (x y : Array Value) : (Value.func f x y).cells = #[.func f x y] := rfl
@[simp] theorem cells_agg' (x : Array Value) : (Value.agg x).cells = x := rfl
end
end Go.Gx

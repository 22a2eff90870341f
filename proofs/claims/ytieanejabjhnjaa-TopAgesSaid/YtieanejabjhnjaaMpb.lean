/- Part 2 of the proof engine and of what the functions come to. No condition. -/
import Derived.Test.YtieanejabjhnjaaMpa
import Derived.Test.YtieanejabjhnjaaProg
import Derived.KernelRfl
/- A row of objects, each behind its pointer: one is taken out of the row, and put back. Nothing of any program stands here. -/
namespace Go.Gx
open Go
variable {oo w : World}

theorem Sat.rot {A B : List HP} (h : Sat oo w (A ++ B)) : Sat oo w (B ++ A) := by
  have h1 := Sat.star (B := A) (L := B) h
  refine Sat.split (A := B) (B := A) ?_
  refine h1.sel ((List.range B.length).map (· + 1) ++ [0]) ?_ ?_
  · rw [List.nodup_append]
    refine ⟨nodup_shift _ 1, by simp, ?_⟩
    intro a ha b hb
    simp only [List.mem_map, List.mem_range] at ha
    obtain ⟨c, _, rfl⟩ := ha
    simp only [List.mem_singleton] at hb
    omega
  · rw [List.map_append, List.map_append, List.map_map]
    congr 1
    apply List.ext_getElem?
    intro i
    simp only [List.getElem?_map]
    by_cases hi : i < B.length
    · simp [hi]
    · simp [hi]

/-- One of a row is taken out. -/
theorem Sat.takeOne {A C L : List HP} {p : HP} (h : Sat oo w (Star (A ++ p :: C) :: L)) : Sat oo w (p :: Star [Star A, Star C] :: L) := by
  have h1 := h.unstar
  rw [List.append_assoc] at h1
  have h2 := (Sat.star (B := A) (L := (p :: C) ++ L) h1).swap
  have h3 := Sat.rot (A := [p, Star A]) (B := C ++ L) h2
  rw [List.append_assoc] at h3
  have h4 := Sat.star (B := C) (L := L ++ [p, Star A]) h3
  have h5 := Sat.rot (A := Star C :: L) (B := [p, Star A]) h4
  have h6 := Sat.rot (A := [p]) (B := Star A :: Star C :: L) h5
  have h7 := Sat.star (B := [Star A, Star C]) (L := L ++ [p]) h6
  exact Sat.rot (A := Star [Star A, Star C] :: L) (B := [p]) h7
theorem Sat.putOne {A C L : List HP} {p : HP} (h : Sat oo w (p :: Star [Star A, Star C] :: L)) : Sat oo w (Star (A ++ p :: C) :: L) := by
  have h1 := h.swap.unstar
  have h2 : Sat oo w (A ++ (Star C :: p :: L)) := Sat.unstar (B := A) (L := Star C :: p :: L) h1
  have h3 := Sat.rot (A := A) (B := Star C :: p :: L) h2
  have h4 : Sat oo w (C ++ ((p :: L) ++ A)) := Sat.unstar (B := C) (L := (p :: L) ++ A) h3
  have h5 := Sat.rot (A := C) (B := (p :: L) ++ A) h4
  have h6 : Sat oo w (p :: (L ++ A ++ C)) := by simpa using h5
  have h7 := Sat.rot (A := p :: L) (B := A ++ C) (by simpa using h6)
  have h8 : Sat oo w (A ++ (C ++ p :: L)) := by simpa using h7
  have h9 := Sat.rot (A := A) (B := C ++ p :: L) h8
  have h10 : Sat oo w (C ++ (p :: L ++ A)) := by simpa using h9
  have h11 := Sat.rot (A := C) (B := p :: L ++ A) h10
  have h12 : Sat oo w ([p] ++ (L ++ (A ++ C))) := by simpa using h11
  have h13 := Sat.rot (A := [p]) (B := L ++ (A ++ C)) h12
  have h14 : Sat oo w (L ++ (A ++ (C ++ [p]))) := by simpa using h13
  have h15 := Sat.rot (A := L) (B := A ++ (C ++ [p])) h14
  have h16 : Sat oo w (A ++ (C ++ ([p] ++ L))) := by simpa using h15
  -- bring p ahead of C
  have h17 := Sat.star (B := A) (L := C ++ ([p] ++ L)) h16
  have h18 := Sat.rot (A := [Star A]) (B := C ++ ([p] ++ L)) h17
  have h19 : Sat oo w (C ++ ([p] ++ L ++ [Star A])) := by simpa using h18
  have h20 := (Sat.star (B := C) (L := [p] ++ L ++ [Star A]) h19).swap
  have h21 := Sat.rot (A := [p, Star C]) (B := L ++ [Star A]) h20
  have h22 : Sat oo w (L ++ ([Star A] ++ [p, Star C])) := by simpa using h21
  have h23 := Sat.rot (A := L) (B := [Star A] ++ [p, Star C]) h22
  have h24 : Sat oo w (A ++ (p :: Star C :: L)) := Sat.unstar (B := A) (L := p :: Star C :: L) h23
  have h25 := Sat.rot (A := A) (B := p :: Star C :: L) h24
  have h26 := Sat.rot (A := [p]) (B := Star C :: (L ++ A)) h25
  have h27 : Sat oo w (C ++ (L ++ A ++ [p])) := Sat.unstar (B := C) (L := L ++ A ++ [p]) h26
  have h28 := Sat.rot (A := C) (B := L ++ A ++ [p]) h27
  have h29 : Sat oo w (L ++ (A ++ p :: C)) := by simpa using h28
  have h30 := Sat.rot (A := L) (B := A ++ p :: C) h29
  exact Sat.star (B := A ++ p :: C) (L := L) h30

/-- Objects in a row: what they are, and their pointers. -/
def objs {α : Type} (f : Value → α → HP) (vs : List Value) (xs : List α) : List HP := (vs.zip xs).map fun p => f p.1 p.2
def Objs {α : Type} (f : Value → α → HP) (vs : List Value) (xs : List α) : HP := Star (objs f vs xs)
def ObjsBut {α : Type} (f : Value → α → HP) (vs : List Value) (xs : List α) (i : Nat) : HP := Star [Star ((objs f vs xs).take i), Star ((objs f vs xs).drop (i + 1))]
theorem objs_len {α : Type} {f : Value → α → HP} {vs : List Value} {xs : List α} (h : vs.length = xs.length) : (objs f vs xs).length = xs.length := by
  simp [objs, h]
theorem objs_at {α : Type} {f : Value → α → HP} {vs : List Value} {xs : List α} (h : vs.length = xs.length) {i : Nat} (hi : i < xs.length) : (objs f vs xs)[i]'(by rw [objs_len h]; exact hi) = f (vs[i]'(by omega)) xs[i] := by
  simp [objs]
theorem Sat.objOut {α : Type} {f : Value → α → HP} {vs : List Value} {xs : List α} {L : List HP} (h : vs.length = xs.length) {i : Nat} (hi : i < xs.length) (hS : Sat oo w (Objs f vs xs :: L)) : Sat oo w (f (vs[i]'(by omega)) xs[i] :: ObjsBut f vs xs i :: L) := by
  have hl := objs_len (f := f) h
  have e : objs f vs xs = (objs f vs xs).take i ++ f (vs[i]'(by omega)) xs[i] :: (objs f vs xs).drop (i + 1) := by
    rw [← objs_at (f := f) h hi, ← List.drop_eq_getElem_cons (by omega), List.take_append_drop]
  unfold Objs at hS
  rw [e] at hS
  exact Sat.takeOne hS
theorem Sat.objIn {α : Type} {f : Value → α → HP} {vs : List Value} {xs : List α} {L : List HP} (h : vs.length = xs.length) {i : Nat} (hi : i < xs.length) {y : α} (hS : Sat oo w (f (vs[i]'(by omega)) y :: ObjsBut f vs xs i :: L)) : Sat oo w (Objs f vs (xs.set i y) :: L) := by
  have hl := objs_len (f := f) h
  have h' : vs.length = (xs.set i y).length := by rw [List.length_set]; exact h
  have hl' := objs_len (f := f) h'
  have ez : objs f vs (xs.set i y) = (objs f vs xs).set i (f (vs[i]'(by omega)) y) := by
    apply List.ext_getElem
    · rw [List.length_set, hl, hl', List.length_set]
    · intro j h1 h2
      rw [List.getElem_set]
      simp only [objs, List.getElem_map, List.getElem_zip, List.getElem_set]
      by_cases e : i = j
      · subst e; simp
      · simp [e]
  have e : (objs f vs xs).set i (f (vs[i]'(by omega)) y) = (objs f vs xs).take i ++ f (vs[i]'(by omega)) y :: (objs f vs xs).drop (i + 1) := by
    rw [List.set_eq_take_append_cons_drop, if_pos (by omega)]
  unfold Objs
  rw [ez, e]
  exact Sat.putOne hS
theorem set_same {α : Type} {xs : List α} {i : Nat} (hi : i < xs.length) : xs.set i xs[i] = xs := List.set_getElem_self hi
end Go.Gx

/- The types of this program, as the stepping rules ask for them: closed facts. No condition. -/
namespace Go.Proofs
open Go Go.Gx
instance : TI Try.prog 0 (Go.TypeDesc.tuple #[]) 1 := ⟨by kernel_rfl, by kernel_rfl⟩
instance : TZ Try.prog 0 (Go.Value.tuple #[]) := ⟨by kernel_rfl⟩
instance : TB Try.prog 0 0 := ⟨by kernel_rfl⟩
instance : TI Try.prog 1 (Go.TypeDesc.func #[] #[] false) 1 := ⟨by kernel_rfl, by kernel_rfl⟩
instance : TZ Try.prog 1 Go.Value.nilFunc := ⟨by kernel_rfl⟩
instance : TB Try.prog 1 8 := ⟨by kernel_rfl⟩
instance : TI Try.prog 2 (Go.TypeDesc.int Go.IntKind.i64) 1 := ⟨by kernel_rfl, by kernel_rfl⟩
instance : TZ Try.prog 2 (Go.Value.int Go.IntKind.i64 0) := ⟨by kernel_rfl⟩
instance : TB Try.prog 2 8 := ⟨by kernel_rfl⟩
instance : TI Try.prog 3 (Go.TypeDesc.int Go.IntKind.i64) 1 := ⟨by kernel_rfl, by kernel_rfl⟩
instance : TZ Try.prog 3 (Go.Value.int Go.IntKind.i64 0) := ⟨by kernel_rfl⟩
instance : TB Try.prog 3 8 := ⟨by kernel_rfl⟩
instance : TI Try.prog 4 Go.TypeDesc.bool 1 := ⟨by kernel_rfl, by kernel_rfl⟩
instance : TZ Try.prog 4 (Go.Value.bool false) := ⟨by kernel_rfl⟩
instance : TB Try.prog 4 1 := ⟨by kernel_rfl⟩
instance : TI Try.prog 5 (Go.TypeDesc.int Go.IntKind.u8) 1 := ⟨by kernel_rfl, by kernel_rfl⟩
instance : TZ Try.prog 5 (Go.Value.int Go.IntKind.u8 0) := ⟨by kernel_rfl⟩
instance : TB Try.prog 5 1 := ⟨by kernel_rfl⟩
instance : TI Try.prog 6 (Go.TypeDesc.int Go.IntKind.u8) 1 := ⟨by kernel_rfl, by kernel_rfl⟩
instance : TZ Try.prog 6 (Go.Value.int Go.IntKind.u8 0) := ⟨by kernel_rfl⟩
instance : TB Try.prog 6 1 := ⟨by kernel_rfl⟩
instance : TI Try.prog 7 (Go.TypeDesc.struct #[⟨"x", 2, 0, false, "", "runtime", 0⟩, ⟨"y", 3, 1, false, "", "runtime", 8⟩, ⟨"signed", 4, 2, false, "", "runtime", 16⟩, ⟨"code", 6, 3, false, "", "runtime", 17⟩]) 4 := ⟨by kernel_rfl, by kernel_rfl⟩
instance : TZ Try.prog 7 (Go.Value.agg #[(Go.Value.int Go.IntKind.i64 0), (Go.Value.int Go.IntKind.i64 0), (Go.Value.bool false), (Go.Value.int Go.IntKind.u8 0)]) := ⟨by kernel_rfl⟩
instance : TB Try.prog 7 24 := ⟨by kernel_rfl⟩
instance : FD Try.prog 7 0 0 false 1 := ⟨#[⟨"x", 2, 0, false, "", "runtime", 0⟩, ⟨"y", 3, 1, false, "", "runtime", 8⟩, ⟨"signed", 4, 2, false, "", "runtime", 16⟩, ⟨"code", 6, 3, false, "", "runtime", 17⟩], ⟨"x", 2, 0, false, "", "runtime", 0⟩, (Go.TypeDesc.int Go.IntKind.i64), by kernel_rfl, rfl, rfl, by kernel_rfl, rfl, by kernel_rfl⟩
instance : FD Try.prog 7 1 1 false 1 := ⟨#[⟨"x", 2, 0, false, "", "runtime", 0⟩, ⟨"y", 3, 1, false, "", "runtime", 8⟩, ⟨"signed", 4, 2, false, "", "runtime", 16⟩, ⟨"code", 6, 3, false, "", "runtime", 17⟩], ⟨"y", 3, 1, false, "", "runtime", 8⟩, (Go.TypeDesc.int Go.IntKind.i64), by kernel_rfl, rfl, rfl, by kernel_rfl, rfl, by kernel_rfl⟩
instance : FD Try.prog 7 2 2 false 1 := ⟨#[⟨"x", 2, 0, false, "", "runtime", 0⟩, ⟨"y", 3, 1, false, "", "runtime", 8⟩, ⟨"signed", 4, 2, false, "", "runtime", 16⟩, ⟨"code", 6, 3, false, "", "runtime", 17⟩], ⟨"signed", 4, 2, false, "", "runtime", 16⟩, Go.TypeDesc.bool, by kernel_rfl, rfl, rfl, by kernel_rfl, rfl, by kernel_rfl⟩
instance : FD Try.prog 7 3 3 false 1 := ⟨#[⟨"x", 2, 0, false, "", "runtime", 0⟩, ⟨"y", 3, 1, false, "", "runtime", 8⟩, ⟨"signed", 4, 2, false, "", "runtime", 16⟩, ⟨"code", 6, 3, false, "", "runtime", 17⟩], ⟨"code", 6, 3, false, "", "runtime", 17⟩, (Go.TypeDesc.int Go.IntKind.u8), by kernel_rfl, rfl, rfl, by kernel_rfl, rfl, by kernel_rfl⟩
instance : TF Try.prog 7 #[(0, 1), (1, 1), (2, 1), (3, 1)] := ⟨#[⟨"x", 2, 0, false, "", "runtime", 0⟩, ⟨"y", 3, 1, false, "", "runtime", 8⟩, ⟨"signed", 4, 2, false, "", "runtime", 16⟩, ⟨"code", 6, 3, false, "", "runtime", 17⟩], by kernel_rfl, fun w => by kernel_rfl⟩
instance : TI Try.prog 8 (Go.TypeDesc.struct #[⟨"x", 2, 0, false, "", "runtime", 0⟩, ⟨"y", 3, 1, false, "", "runtime", 8⟩, ⟨"signed", 4, 2, false, "", "runtime", 16⟩, ⟨"code", 6, 3, false, "", "runtime", 17⟩]) 4 := ⟨by kernel_rfl, by kernel_rfl⟩
instance : TZ Try.prog 8 (Go.Value.agg #[(Go.Value.int Go.IntKind.i64 0), (Go.Value.int Go.IntKind.i64 0), (Go.Value.bool false), (Go.Value.int Go.IntKind.u8 0)]) := ⟨by kernel_rfl⟩
instance : TB Try.prog 8 24 := ⟨by kernel_rfl⟩
instance : FD Try.prog 8 0 0 false 1 := ⟨#[⟨"x", 2, 0, false, "", "runtime", 0⟩, ⟨"y", 3, 1, false, "", "runtime", 8⟩, ⟨"signed", 4, 2, false, "", "runtime", 16⟩, ⟨"code", 6, 3, false, "", "runtime", 17⟩], ⟨"x", 2, 0, false, "", "runtime", 0⟩, (Go.TypeDesc.int Go.IntKind.i64), by kernel_rfl, rfl, rfl, by kernel_rfl, rfl, by kernel_rfl⟩
instance : FD Try.prog 8 1 1 false 1 := ⟨#[⟨"x", 2, 0, false, "", "runtime", 0⟩, ⟨"y", 3, 1, false, "", "runtime", 8⟩, ⟨"signed", 4, 2, false, "", "runtime", 16⟩, ⟨"code", 6, 3, false, "", "runtime", 17⟩], ⟨"y", 3, 1, false, "", "runtime", 8⟩, (Go.TypeDesc.int Go.IntKind.i64), by kernel_rfl, rfl, rfl, by kernel_rfl, rfl, by kernel_rfl⟩
instance : FD Try.prog 8 2 2 false 1 := ⟨#[⟨"x", 2, 0, false, "", "runtime", 0⟩, ⟨"y", 3, 1, false, "", "runtime", 8⟩, ⟨"signed", 4, 2, false, "", "runtime", 16⟩, ⟨"code", 6, 3, false, "", "runtime", 17⟩], ⟨"signed", 4, 2, false, "", "runtime", 16⟩, Go.TypeDesc.bool, by kernel_rfl, rfl, rfl, by kernel_rfl, rfl, by kernel_rfl⟩
instance : FD Try.prog 8 3 3 false 1 := ⟨#[⟨"x", 2, 0, false, "", "runtime", 0⟩, ⟨"y", 3, 1, false, "", "runtime", 8⟩, ⟨"signed", 4, 2, false, "", "runtime", 16⟩, ⟨"code", 6, 3, false, "", "runtime", 17⟩], ⟨"code", 6, 3, false, "", "runtime", 17⟩, (Go.TypeDesc.int Go.IntKind.u8), by kernel_rfl, rfl, rfl, by kernel_rfl, rfl, by kernel_rfl⟩
instance : TF Try.prog 8 #[(0, 1), (1, 1), (2, 1), (3, 1)] := ⟨#[⟨"x", 2, 0, false, "", "runtime", 0⟩, ⟨"y", 3, 1, false, "", "runtime", 8⟩, ⟨"signed", 4, 2, false, "", "runtime", 16⟩, ⟨"code", 6, 3, false, "", "runtime", 17⟩], by kernel_rfl, fun w => by kernel_rfl⟩
instance : TI Try.prog 9 Go.TypeDesc.string 1 := ⟨by kernel_rfl, by kernel_rfl⟩
instance : TZ Try.prog 9 (Go.Value.string (ByteArray.mk #[])) := ⟨by kernel_rfl⟩
instance : TB Try.prog 9 16 := ⟨by kernel_rfl⟩
instance : TI Try.prog 10 Go.TypeDesc.string 1 := ⟨by kernel_rfl, by kernel_rfl⟩
instance : TZ Try.prog 10 (Go.Value.string (ByteArray.mk #[])) := ⟨by kernel_rfl⟩
instance : TB Try.prog 10 16 := ⟨by kernel_rfl⟩
instance : TI Try.prog 11 Go.TypeDesc.string 1 := ⟨by kernel_rfl, by kernel_rfl⟩
instance : TZ Try.prog 11 (Go.Value.string (ByteArray.mk #[])) := ⟨by kernel_rfl⟩
instance : TB Try.prog 11 16 := ⟨by kernel_rfl⟩
instance : TI Try.prog 12 (Go.TypeDesc.int Go.IntKind.u64) 1 := ⟨by kernel_rfl, by kernel_rfl⟩
instance : TZ Try.prog 12 (Go.Value.int Go.IntKind.u64 0) := ⟨by kernel_rfl⟩
instance : TB Try.prog 12 8 := ⟨by kernel_rfl⟩
instance : TI Try.prog 13 (Go.TypeDesc.struct #[⟨"msg", 9, 0, false, "", "runtime", 0⟩, ⟨"addr", 12, 1, false, "", "runtime", 16⟩]) 2 := ⟨by kernel_rfl, by kernel_rfl⟩
instance : TZ Try.prog 13 (Go.Value.agg #[(Go.Value.string (ByteArray.mk #[])), (Go.Value.int Go.IntKind.u64 0)]) := ⟨by kernel_rfl⟩
instance : TB Try.prog 13 24 := ⟨by kernel_rfl⟩
instance : FD Try.prog 13 0 0 false 1 := ⟨#[⟨"msg", 9, 0, false, "", "runtime", 0⟩, ⟨"addr", 12, 1, false, "", "runtime", 16⟩], ⟨"msg", 9, 0, false, "", "runtime", 0⟩, Go.TypeDesc.string, by kernel_rfl, rfl, rfl, by kernel_rfl, rfl, by kernel_rfl⟩
instance : FD Try.prog 13 1 1 false 1 := ⟨#[⟨"msg", 9, 0, false, "", "runtime", 0⟩, ⟨"addr", 12, 1, false, "", "runtime", 16⟩], ⟨"addr", 12, 1, false, "", "runtime", 16⟩, (Go.TypeDesc.int Go.IntKind.u64), by kernel_rfl, rfl, rfl, by kernel_rfl, rfl, by kernel_rfl⟩
instance : TF Try.prog 13 #[(0, 1), (1, 1)] := ⟨#[⟨"msg", 9, 0, false, "", "runtime", 0⟩, ⟨"addr", 12, 1, false, "", "runtime", 16⟩], by kernel_rfl, fun w => by kernel_rfl⟩
instance : TI Try.prog 14 (Go.TypeDesc.struct #[⟨"msg", 9, 0, false, "", "runtime", 0⟩, ⟨"addr", 12, 1, false, "", "runtime", 16⟩]) 2 := ⟨by kernel_rfl, by kernel_rfl⟩
instance : TZ Try.prog 14 (Go.Value.agg #[(Go.Value.string (ByteArray.mk #[])), (Go.Value.int Go.IntKind.u64 0)]) := ⟨by kernel_rfl⟩
instance : TB Try.prog 14 24 := ⟨by kernel_rfl⟩
instance : FD Try.prog 14 0 0 false 1 := ⟨#[⟨"msg", 9, 0, false, "", "runtime", 0⟩, ⟨"addr", 12, 1, false, "", "runtime", 16⟩], ⟨"msg", 9, 0, false, "", "runtime", 0⟩, Go.TypeDesc.string, by kernel_rfl, rfl, rfl, by kernel_rfl, rfl, by kernel_rfl⟩
instance : FD Try.prog 14 1 1 false 1 := ⟨#[⟨"msg", 9, 0, false, "", "runtime", 0⟩, ⟨"addr", 12, 1, false, "", "runtime", 16⟩], ⟨"addr", 12, 1, false, "", "runtime", 16⟩, (Go.TypeDesc.int Go.IntKind.u64), by kernel_rfl, rfl, rfl, by kernel_rfl, rfl, by kernel_rfl⟩
instance : TF Try.prog 14 #[(0, 1), (1, 1)] := ⟨#[⟨"msg", 9, 0, false, "", "runtime", 0⟩, ⟨"addr", 12, 1, false, "", "runtime", 16⟩], by kernel_rfl, fun w => by kernel_rfl⟩
instance : TI Try.prog 15 (Go.TypeDesc.pointer 151) 1 := ⟨by kernel_rfl, by kernel_rfl⟩
instance : TZ Try.prog 15 (Go.Value.pointer none) := ⟨by kernel_rfl⟩
instance : TB Try.prog 15 8 := ⟨by kernel_rfl⟩
instance : TI Try.prog 16 (Go.TypeDesc.pointer 154) 1 := ⟨by kernel_rfl, by kernel_rfl⟩
instance : TZ Try.prog 16 (Go.Value.pointer none) := ⟨by kernel_rfl⟩
instance : TB Try.prog 16 8 := ⟨by kernel_rfl⟩
instance : TI Try.prog 17 (Go.TypeDesc.pointer 163) 1 := ⟨by kernel_rfl, by kernel_rfl⟩
instance : TZ Try.prog 17 (Go.Value.pointer none) := ⟨by kernel_rfl⟩
instance : TB Try.prog 17 8 := ⟨by kernel_rfl⟩
instance : TI Try.prog 18 (Go.TypeDesc.struct #[⟨"typ", 17, 0, false, "", "internal/runtime/maps", 0⟩]) 1 := ⟨by kernel_rfl, by kernel_rfl⟩
instance : TZ Try.prog 18 (Go.Value.agg #[(Go.Value.pointer none)]) := ⟨by kernel_rfl⟩
instance : TB Try.prog 18 8 := ⟨by kernel_rfl⟩
instance : FD Try.prog 18 0 0 false 1 := ⟨#[⟨"typ", 17, 0, false, "", "internal/runtime/maps", 0⟩], ⟨"typ", 17, 0, false, "", "internal/runtime/maps", 0⟩, (Go.TypeDesc.pointer 163), by kernel_rfl, rfl, rfl, by kernel_rfl, rfl, by kernel_rfl⟩
instance : TF Try.prog 18 #[(0, 1)] := ⟨#[⟨"typ", 17, 0, false, "", "internal/runtime/maps", 0⟩], by kernel_rfl, fun w => by kernel_rfl⟩
instance : TI Try.prog 19 (Go.TypeDesc.struct #[⟨"typ", 17, 0, false, "", "internal/runtime/maps", 0⟩]) 1 := ⟨by kernel_rfl, by kernel_rfl⟩
instance : TZ Try.prog 19 (Go.Value.agg #[(Go.Value.pointer none)]) := ⟨by kernel_rfl⟩
instance : TB Try.prog 19 8 := ⟨by kernel_rfl⟩
instance : FD Try.prog 19 0 0 false 1 := ⟨#[⟨"typ", 17, 0, false, "", "internal/runtime/maps", 0⟩], ⟨"typ", 17, 0, false, "", "internal/runtime/maps", 0⟩, (Go.TypeDesc.pointer 163), by kernel_rfl, rfl, rfl, by kernel_rfl, rfl, by kernel_rfl⟩
instance : TF Try.prog 19 #[(0, 1)] := ⟨#[⟨"typ", 17, 0, false, "", "internal/runtime/maps", 0⟩], by kernel_rfl, fun w => by kernel_rfl⟩
instance : TI Try.prog 20 (Go.TypeDesc.interface #[]) 1 := ⟨by kernel_rfl, by kernel_rfl⟩
instance : TZ Try.prog 20 Go.Value.nilIface := ⟨by kernel_rfl⟩
instance : TB Try.prog 20 16 := ⟨by kernel_rfl⟩
instance : TI Try.prog 21 (Go.TypeDesc.int Go.IntKind.i32) 1 := ⟨by kernel_rfl, by kernel_rfl⟩
instance : TZ Try.prog 21 (Go.Value.int Go.IntKind.i32 0) := ⟨by kernel_rfl⟩
instance : TB Try.prog 21 4 := ⟨by kernel_rfl⟩
instance : TI Try.prog 22 (Go.TypeDesc.slice 28) 1 := ⟨by kernel_rfl, by kernel_rfl⟩
instance : TZ Try.prog 22 (Go.Value.slice none 0 0) := ⟨by kernel_rfl⟩
instance : TB Try.prog 22 24 := ⟨by kernel_rfl⟩
instance : TI Try.prog 23 (Go.TypeDesc.slice 5) 1 := ⟨by kernel_rfl, by kernel_rfl⟩
instance : TZ Try.prog 23 (Go.Value.slice none 0 0) := ⟨by kernel_rfl⟩
instance : TB Try.prog 23 24 := ⟨by kernel_rfl⟩
instance : TI Try.prog 24 (Go.TypeDesc.pointer 69) 1 := ⟨by kernel_rfl, by kernel_rfl⟩
instance : TZ Try.prog 24 (Go.Value.pointer none) := ⟨by kernel_rfl⟩
instance : TB Try.prog 24 8 := ⟨by kernel_rfl⟩
instance : TI Try.prog 25 (Go.TypeDesc.func #[3, 3, 3] #[24] false) 1 := ⟨by kernel_rfl, by kernel_rfl⟩
instance : TZ Try.prog 25 Go.Value.nilFunc := ⟨by kernel_rfl⟩
instance : TB Try.prog 25 8 := ⟨by kernel_rfl⟩
instance : TI Try.prog 26 (Go.TypeDesc.int Go.IntKind.i64) 1 := ⟨by kernel_rfl, by kernel_rfl⟩
instance : TZ Try.prog 26 (Go.Value.int Go.IntKind.i64 0) := ⟨by kernel_rfl⟩
instance : TB Try.prog 26 8 := ⟨by kernel_rfl⟩
instance : TI Try.prog 27 (Go.TypeDesc.func #[3, 3, 31] #[26] false) 1 := ⟨by kernel_rfl, by kernel_rfl⟩
instance : TZ Try.prog 27 Go.Value.nilFunc := ⟨by kernel_rfl⟩
instance : TB Try.prog 27 8 := ⟨by kernel_rfl⟩
instance : TI Try.prog 28 (Go.TypeDesc.int Go.IntKind.u16) 1 := ⟨by kernel_rfl, by kernel_rfl⟩
instance : TZ Try.prog 28 (Go.Value.int Go.IntKind.u16 0) := ⟨by kernel_rfl⟩
instance : TB Try.prog 28 2 := ⟨by kernel_rfl⟩
instance : TI Try.prog 29 (Go.TypeDesc.int Go.IntKind.u64) 1 := ⟨by kernel_rfl, by kernel_rfl⟩
instance : TZ Try.prog 29 (Go.Value.int Go.IntKind.u64 0) := ⟨by kernel_rfl⟩
instance : TB Try.prog 29 8 := ⟨by kernel_rfl⟩
instance : TI Try.prog 30 (Go.TypeDesc.struct #[⟨"Edf", 4, 0, false, "", "", 0⟩, ⟨"Deadline", 29, 1, false, "", "", 8⟩, ⟨"Level", 5, 2, false, "", "", 16⟩]) 3 := ⟨by kernel_rfl, by kernel_rfl⟩
instance : TZ Try.prog 30 (Go.Value.agg #[(Go.Value.bool false), (Go.Value.int Go.IntKind.u64 0), (Go.Value.int Go.IntKind.u8 0)]) := ⟨by kernel_rfl⟩
instance : TB Try.prog 30 24 := ⟨by kernel_rfl⟩
instance : FD Try.prog 30 0 0 false 1 := ⟨#[⟨"Edf", 4, 0, false, "", "", 0⟩, ⟨"Deadline", 29, 1, false, "", "", 8⟩, ⟨"Level", 5, 2, false, "", "", 16⟩], ⟨"Edf", 4, 0, false, "", "", 0⟩, Go.TypeDesc.bool, by kernel_rfl, rfl, rfl, by kernel_rfl, rfl, by kernel_rfl⟩
instance : FD Try.prog 30 1 1 false 1 := ⟨#[⟨"Edf", 4, 0, false, "", "", 0⟩, ⟨"Deadline", 29, 1, false, "", "", 8⟩, ⟨"Level", 5, 2, false, "", "", 16⟩], ⟨"Deadline", 29, 1, false, "", "", 8⟩, (Go.TypeDesc.int Go.IntKind.u64), by kernel_rfl, rfl, rfl, by kernel_rfl, rfl, by kernel_rfl⟩
instance : FD Try.prog 30 2 2 false 1 := ⟨#[⟨"Edf", 4, 0, false, "", "", 0⟩, ⟨"Deadline", 29, 1, false, "", "", 8⟩, ⟨"Level", 5, 2, false, "", "", 16⟩], ⟨"Level", 5, 2, false, "", "", 16⟩, (Go.TypeDesc.int Go.IntKind.u8), by kernel_rfl, rfl, rfl, by kernel_rfl, rfl, by kernel_rfl⟩
instance : TF Try.prog 30 #[(0, 1), (1, 1), (2, 1)] := ⟨#[⟨"Edf", 4, 0, false, "", "", 0⟩, ⟨"Deadline", 29, 1, false, "", "", 8⟩, ⟨"Level", 5, 2, false, "", "", 16⟩], by kernel_rfl, fun w => by kernel_rfl⟩
instance : TI Try.prog 31 (Go.TypeDesc.struct #[⟨"Edf", 4, 0, false, "", "", 0⟩, ⟨"Deadline", 29, 1, false, "", "", 8⟩, ⟨"Level", 5, 2, false, "", "", 16⟩]) 3 := ⟨by kernel_rfl, by kernel_rfl⟩
instance : TZ Try.prog 31 (Go.Value.agg #[(Go.Value.bool false), (Go.Value.int Go.IntKind.u64 0), (Go.Value.int Go.IntKind.u8 0)]) := ⟨by kernel_rfl⟩
instance : TB Try.prog 31 24 := ⟨by kernel_rfl⟩
instance : FD Try.prog 31 0 0 false 1 := ⟨#[⟨"Edf", 4, 0, false, "", "", 0⟩, ⟨"Deadline", 29, 1, false, "", "", 8⟩, ⟨"Level", 5, 2, false, "", "", 16⟩], ⟨"Edf", 4, 0, false, "", "", 0⟩, Go.TypeDesc.bool, by kernel_rfl, rfl, rfl, by kernel_rfl, rfl, by kernel_rfl⟩
instance : FD Try.prog 31 1 1 false 1 := ⟨#[⟨"Edf", 4, 0, false, "", "", 0⟩, ⟨"Deadline", 29, 1, false, "", "", 8⟩, ⟨"Level", 5, 2, false, "", "", 16⟩], ⟨"Deadline", 29, 1, false, "", "", 8⟩, (Go.TypeDesc.int Go.IntKind.u64), by kernel_rfl, rfl, rfl, by kernel_rfl, rfl, by kernel_rfl⟩
instance : FD Try.prog 31 2 2 false 1 := ⟨#[⟨"Edf", 4, 0, false, "", "", 0⟩, ⟨"Deadline", 29, 1, false, "", "", 8⟩, ⟨"Level", 5, 2, false, "", "", 16⟩], ⟨"Level", 5, 2, false, "", "", 16⟩, (Go.TypeDesc.int Go.IntKind.u8), by kernel_rfl, rfl, rfl, by kernel_rfl, rfl, by kernel_rfl⟩
instance : TF Try.prog 31 #[(0, 1), (1, 1), (2, 1)] := ⟨#[⟨"Edf", 4, 0, false, "", "", 0⟩, ⟨"Deadline", 29, 1, false, "", "", 8⟩, ⟨"Level", 5, 2, false, "", "", 16⟩], by kernel_rfl, fun w => by kernel_rfl⟩
instance : TI Try.prog 32 (Go.TypeDesc.func #[5] #[31] false) 1 := ⟨by kernel_rfl, by kernel_rfl⟩
instance : TZ Try.prog 32 Go.Value.nilFunc := ⟨by kernel_rfl⟩
instance : TB Try.prog 32 8 := ⟨by kernel_rfl⟩
instance : TI Try.prog 33 (Go.TypeDesc.func #[29] #[31] false) 1 := ⟨by kernel_rfl, by kernel_rfl⟩
instance : TZ Try.prog 33 Go.Value.nilFunc := ⟨by kernel_rfl⟩
instance : TB Try.prog 33 8 := ⟨by kernel_rfl⟩
instance : TI Try.prog 34 (Go.TypeDesc.tuple #[3, 31, 3, 4]) 1 := ⟨by kernel_rfl, by kernel_rfl⟩
instance : TZ Try.prog 34 (Go.Value.tuple #[(Go.Value.int Go.IntKind.i64 0), (Go.Value.agg #[(Go.Value.bool false), (Go.Value.int Go.IntKind.u64 0), (Go.Value.int Go.IntKind.u8 0)]), (Go.Value.int Go.IntKind.i64 0), (Go.Value.bool false)]) := ⟨by kernel_rfl⟩
instance : TB Try.prog 34 0 := ⟨by kernel_rfl⟩
instance : TI Try.prog 35 (Go.TypeDesc.func #[3, 29] #[3, 31, 3, 4] false) 1 := ⟨by kernel_rfl, by kernel_rfl⟩
instance : TZ Try.prog 35 Go.Value.nilFunc := ⟨by kernel_rfl⟩
instance : TB Try.prog 35 8 := ⟨by kernel_rfl⟩
instance : TI Try.prog 36 (Go.TypeDesc.func #[31, 31] #[4] false) 1 := ⟨by kernel_rfl, by kernel_rfl⟩
instance : TZ Try.prog 36 Go.Value.nilFunc := ⟨by kernel_rfl⟩
instance : TB Try.prog 36 8 := ⟨by kernel_rfl⟩
instance : TI Try.prog 37 (Go.TypeDesc.func #[] #[3] false) 1 := ⟨by kernel_rfl, by kernel_rfl⟩
instance : TZ Try.prog 37 Go.Value.nilFunc := ⟨by kernel_rfl⟩
instance : TB Try.prog 37 8 := ⟨by kernel_rfl⟩
instance : TI Try.prog 38 (Go.TypeDesc.func #[22, 23] #[4] false) 1 := ⟨by kernel_rfl, by kernel_rfl⟩
instance : TZ Try.prog 38 Go.Value.nilFunc := ⟨by kernel_rfl⟩
instance : TB Try.prog 38 8 := ⟨by kernel_rfl⟩
instance : TI Try.prog 39 (Go.TypeDesc.slice 41) 1 := ⟨by kernel_rfl, by kernel_rfl⟩
instance : TZ Try.prog 39 (Go.Value.slice none 0 0) := ⟨by kernel_rfl⟩
instance : TB Try.prog 39 24 := ⟨by kernel_rfl⟩
instance : TI Try.prog 40 (Go.TypeDesc.struct #[⟨"Kind", 3, 0, false, "", "", 0⟩, ⟨"Proc", 3, 1, false, "", "", 8⟩, ⟨"Id", 3, 2, false, "", "", 16⟩, ⟨"K", 31, 3, false, "", "", 24⟩, ⟨"Draw", 29, 6, false, "", "", 48⟩]) 7 := ⟨by kernel_rfl, by kernel_rfl⟩
instance : TZ Try.prog 40 (Go.Value.agg #[(Go.Value.int Go.IntKind.i64 0), (Go.Value.int Go.IntKind.i64 0), (Go.Value.int Go.IntKind.i64 0), (Go.Value.bool false), (Go.Value.int Go.IntKind.u64 0), (Go.Value.int Go.IntKind.u8 0), (Go.Value.int Go.IntKind.u64 0)]) := ⟨by kernel_rfl⟩
instance : TB Try.prog 40 56 := ⟨by kernel_rfl⟩
instance : FD Try.prog 40 0 0 false 1 := ⟨#[⟨"Kind", 3, 0, false, "", "", 0⟩, ⟨"Proc", 3, 1, false, "", "", 8⟩, ⟨"Id", 3, 2, false, "", "", 16⟩, ⟨"K", 31, 3, false, "", "", 24⟩, ⟨"Draw", 29, 6, false, "", "", 48⟩], ⟨"Kind", 3, 0, false, "", "", 0⟩, (Go.TypeDesc.int Go.IntKind.i64), by kernel_rfl, rfl, rfl, by kernel_rfl, rfl, by kernel_rfl⟩
instance : FD Try.prog 40 1 1 false 1 := ⟨#[⟨"Kind", 3, 0, false, "", "", 0⟩, ⟨"Proc", 3, 1, false, "", "", 8⟩, ⟨"Id", 3, 2, false, "", "", 16⟩, ⟨"K", 31, 3, false, "", "", 24⟩, ⟨"Draw", 29, 6, false, "", "", 48⟩], ⟨"Proc", 3, 1, false, "", "", 8⟩, (Go.TypeDesc.int Go.IntKind.i64), by kernel_rfl, rfl, rfl, by kernel_rfl, rfl, by kernel_rfl⟩
instance : FD Try.prog 40 2 2 false 1 := ⟨#[⟨"Kind", 3, 0, false, "", "", 0⟩, ⟨"Proc", 3, 1, false, "", "", 8⟩, ⟨"Id", 3, 2, false, "", "", 16⟩, ⟨"K", 31, 3, false, "", "", 24⟩, ⟨"Draw", 29, 6, false, "", "", 48⟩], ⟨"Id", 3, 2, false, "", "", 16⟩, (Go.TypeDesc.int Go.IntKind.i64), by kernel_rfl, rfl, rfl, by kernel_rfl, rfl, by kernel_rfl⟩
instance : FD Try.prog 40 3 3 true 3 := ⟨#[⟨"Kind", 3, 0, false, "", "", 0⟩, ⟨"Proc", 3, 1, false, "", "", 8⟩, ⟨"Id", 3, 2, false, "", "", 16⟩, ⟨"K", 31, 3, false, "", "", 24⟩, ⟨"Draw", 29, 6, false, "", "", 48⟩], ⟨"K", 31, 3, false, "", "", 24⟩, (Go.TypeDesc.struct #[⟨"Edf", 4, 0, false, "", "", 0⟩, ⟨"Deadline", 29, 1, false, "", "", 8⟩, ⟨"Level", 5, 2, false, "", "", 16⟩]), by kernel_rfl, rfl, rfl, by kernel_rfl, rfl, by kernel_rfl⟩
instance : FD Try.prog 40 4 6 false 1 := ⟨#[⟨"Kind", 3, 0, false, "", "", 0⟩, ⟨"Proc", 3, 1, false, "", "", 8⟩, ⟨"Id", 3, 2, false, "", "", 16⟩, ⟨"K", 31, 3, false, "", "", 24⟩, ⟨"Draw", 29, 6, false, "", "", 48⟩], ⟨"Draw", 29, 6, false, "", "", 48⟩, (Go.TypeDesc.int Go.IntKind.u64), by kernel_rfl, rfl, rfl, by kernel_rfl, rfl, by kernel_rfl⟩
instance : TF Try.prog 40 #[(0, 1), (1, 1), (2, 1), (3, 3), (6, 1)] := ⟨#[⟨"Kind", 3, 0, false, "", "", 0⟩, ⟨"Proc", 3, 1, false, "", "", 8⟩, ⟨"Id", 3, 2, false, "", "", 16⟩, ⟨"K", 31, 3, false, "", "", 24⟩, ⟨"Draw", 29, 6, false, "", "", 48⟩], by kernel_rfl, fun w => by kernel_rfl⟩
instance : TI Try.prog 41 (Go.TypeDesc.struct #[⟨"Kind", 3, 0, false, "", "", 0⟩, ⟨"Proc", 3, 1, false, "", "", 8⟩, ⟨"Id", 3, 2, false, "", "", 16⟩, ⟨"K", 31, 3, false, "", "", 24⟩, ⟨"Draw", 29, 6, false, "", "", 48⟩]) 7 := ⟨by kernel_rfl, by kernel_rfl⟩
instance : TZ Try.prog 41 (Go.Value.agg #[(Go.Value.int Go.IntKind.i64 0), (Go.Value.int Go.IntKind.i64 0), (Go.Value.int Go.IntKind.i64 0), (Go.Value.bool false), (Go.Value.int Go.IntKind.u64 0), (Go.Value.int Go.IntKind.u8 0), (Go.Value.int Go.IntKind.u64 0)]) := ⟨by kernel_rfl⟩
instance : TB Try.prog 41 56 := ⟨by kernel_rfl⟩
instance : FD Try.prog 41 0 0 false 1 := ⟨#[⟨"Kind", 3, 0, false, "", "", 0⟩, ⟨"Proc", 3, 1, false, "", "", 8⟩, ⟨"Id", 3, 2, false, "", "", 16⟩, ⟨"K", 31, 3, false, "", "", 24⟩, ⟨"Draw", 29, 6, false, "", "", 48⟩], ⟨"Kind", 3, 0, false, "", "", 0⟩, (Go.TypeDesc.int Go.IntKind.i64), by kernel_rfl, rfl, rfl, by kernel_rfl, rfl, by kernel_rfl⟩
instance : FD Try.prog 41 1 1 false 1 := ⟨#[⟨"Kind", 3, 0, false, "", "", 0⟩, ⟨"Proc", 3, 1, false, "", "", 8⟩, ⟨"Id", 3, 2, false, "", "", 16⟩, ⟨"K", 31, 3, false, "", "", 24⟩, ⟨"Draw", 29, 6, false, "", "", 48⟩], ⟨"Proc", 3, 1, false, "", "", 8⟩, (Go.TypeDesc.int Go.IntKind.i64), by kernel_rfl, rfl, rfl, by kernel_rfl, rfl, by kernel_rfl⟩
instance : FD Try.prog 41 2 2 false 1 := ⟨#[⟨"Kind", 3, 0, false, "", "", 0⟩, ⟨"Proc", 3, 1, false, "", "", 8⟩, ⟨"Id", 3, 2, false, "", "", 16⟩, ⟨"K", 31, 3, false, "", "", 24⟩, ⟨"Draw", 29, 6, false, "", "", 48⟩], ⟨"Id", 3, 2, false, "", "", 16⟩, (Go.TypeDesc.int Go.IntKind.i64), by kernel_rfl, rfl, rfl, by kernel_rfl, rfl, by kernel_rfl⟩
instance : FD Try.prog 41 3 3 true 3 := ⟨#[⟨"Kind", 3, 0, false, "", "", 0⟩, ⟨"Proc", 3, 1, false, "", "", 8⟩, ⟨"Id", 3, 2, false, "", "", 16⟩, ⟨"K", 31, 3, false, "", "", 24⟩, ⟨"Draw", 29, 6, false, "", "", 48⟩], ⟨"K", 31, 3, false, "", "", 24⟩, (Go.TypeDesc.struct #[⟨"Edf", 4, 0, false, "", "", 0⟩, ⟨"Deadline", 29, 1, false, "", "", 8⟩, ⟨"Level", 5, 2, false, "", "", 16⟩]), by kernel_rfl, rfl, rfl, by kernel_rfl, rfl, by kernel_rfl⟩
instance : FD Try.prog 41 4 6 false 1 := ⟨#[⟨"Kind", 3, 0, false, "", "", 0⟩, ⟨"Proc", 3, 1, false, "", "", 8⟩, ⟨"Id", 3, 2, false, "", "", 16⟩, ⟨"K", 31, 3, false, "", "", 24⟩, ⟨"Draw", 29, 6, false, "", "", 48⟩], ⟨"Draw", 29, 6, false, "", "", 48⟩, (Go.TypeDesc.int Go.IntKind.u64), by kernel_rfl, rfl, rfl, by kernel_rfl, rfl, by kernel_rfl⟩
instance : TF Try.prog 41 #[(0, 1), (1, 1), (2, 1), (3, 3), (6, 1)] := ⟨#[⟨"Kind", 3, 0, false, "", "", 0⟩, ⟨"Proc", 3, 1, false, "", "", 8⟩, ⟨"Id", 3, 2, false, "", "", 16⟩, ⟨"K", 31, 3, false, "", "", 24⟩, ⟨"Draw", 29, 6, false, "", "", 48⟩], by kernel_rfl, fun w => by kernel_rfl⟩
instance : TI Try.prog 42 (Go.TypeDesc.array 2 41) 14 := ⟨by kernel_rfl, by kernel_rfl⟩
instance : TZ Try.prog 42 (Go.Value.agg #[(Go.Value.int Go.IntKind.i64 0), (Go.Value.int Go.IntKind.i64 0), (Go.Value.int Go.IntKind.i64 0), (Go.Value.bool false), (Go.Value.int Go.IntKind.u64 0), (Go.Value.int Go.IntKind.u8 0), (Go.Value.int Go.IntKind.u64 0), (Go.Value.int Go.IntKind.i64 0), (Go.Value.int Go.IntKind.i64 0), (Go.Value.int Go.IntKind.i64 0), (Go.Value.bool false), (Go.Value.int Go.IntKind.u64 0), (Go.Value.int Go.IntKind.u8 0), (Go.Value.int Go.IntKind.u64 0)]) := ⟨by kernel_rfl⟩
instance : TB Try.prog 42 112 := ⟨by kernel_rfl⟩
instance : TI Try.prog 43 (Go.TypeDesc.pointer 84) 1 := ⟨by kernel_rfl, by kernel_rfl⟩
instance : TZ Try.prog 43 (Go.Value.pointer none) := ⟨by kernel_rfl⟩
instance : TB Try.prog 43 8 := ⟨by kernel_rfl⟩
instance : TI Try.prog 44 (Go.TypeDesc.tuple #[24, 43, 4]) 1 := ⟨by kernel_rfl, by kernel_rfl⟩
instance : TZ Try.prog 44 (Go.Value.tuple #[(Go.Value.pointer none), (Go.Value.pointer none), (Go.Value.bool false)]) := ⟨by kernel_rfl⟩
instance : TB Try.prog 44 0 := ⟨by kernel_rfl⟩
instance : TI Try.prog 45 (Go.TypeDesc.func #[5, 39] #[24, 43, 4] false) 1 := ⟨by kernel_rfl, by kernel_rfl⟩
instance : TZ Try.prog 45 Go.Value.nilFunc := ⟨by kernel_rfl⟩
instance : TB Try.prog 45 8 := ⟨by kernel_rfl⟩
instance : TI Try.prog 46 (Go.TypeDesc.func #[] #[4] false) 1 := ⟨by kernel_rfl, by kernel_rfl⟩
instance : TZ Try.prog 46 Go.Value.nilFunc := ⟨by kernel_rfl⟩
instance : TB Try.prog 46 8 := ⟨by kernel_rfl⟩
instance : TI Try.prog 47 (Go.TypeDesc.func #[5, 39, 42] #[4] false) 1 := ⟨by kernel_rfl, by kernel_rfl⟩
instance : TZ Try.prog 47 Go.Value.nilFunc := ⟨by kernel_rfl⟩
instance : TB Try.prog 47 8 := ⟨by kernel_rfl⟩
instance : TI Try.prog 48 (Go.TypeDesc.tuple #[3, 4]) 1 := ⟨by kernel_rfl, by kernel_rfl⟩
instance : TZ Try.prog 48 (Go.Value.tuple #[(Go.Value.int Go.IntKind.i64 0), (Go.Value.bool false)]) := ⟨by kernel_rfl⟩
instance : TB Try.prog 48 0 := ⟨by kernel_rfl⟩
instance : TI Try.prog 49 (Go.TypeDesc.func #[3] #[3, 4] false) 1 := ⟨by kernel_rfl, by kernel_rfl⟩
instance : TZ Try.prog 49 Go.Value.nilFunc := ⟨by kernel_rfl⟩
instance : TB Try.prog 49 8 := ⟨by kernel_rfl⟩
instance : TI Try.prog 50 (Go.TypeDesc.func #[5, 39, 41] #[4] false) 1 := ⟨by kernel_rfl, by kernel_rfl⟩
instance : TZ Try.prog 50 Go.Value.nilFunc := ⟨by kernel_rfl⟩
instance : TB Try.prog 50 8 := ⟨by kernel_rfl⟩
instance : TI Try.prog 51 (Go.TypeDesc.func #[5, 29, 29, 29] #[5] false) 1 := ⟨by kernel_rfl, by kernel_rfl⟩
instance : TZ Try.prog 51 Go.Value.nilFunc := ⟨by kernel_rfl⟩
instance : TB Try.prog 51 8 := ⟨by kernel_rfl⟩
instance : TI Try.prog 52 (Go.TypeDesc.func #[5, 28] #[4] false) 1 := ⟨by kernel_rfl, by kernel_rfl⟩
instance : TZ Try.prog 52 Go.Value.nilFunc := ⟨by kernel_rfl⟩
instance : TB Try.prog 52 8 := ⟨by kernel_rfl⟩
instance : TI Try.prog 53 (Go.TypeDesc.slice 3) 1 := ⟨by kernel_rfl, by kernel_rfl⟩
instance : TZ Try.prog 53 (Go.Value.slice none 0 0) := ⟨by kernel_rfl⟩
instance : TB Try.prog 53 24 := ⟨by kernel_rfl⟩
instance : TI Try.prog 54 (Go.TypeDesc.func #[3] #[53] false) 1 := ⟨by kernel_rfl, by kernel_rfl⟩
instance : TZ Try.prog 54 Go.Value.nilFunc := ⟨by kernel_rfl⟩
instance : TB Try.prog 54 8 := ⟨by kernel_rfl⟩
instance : TI Try.prog 55 (Go.TypeDesc.func #[] #[43] false) 1 := ⟨by kernel_rfl, by kernel_rfl⟩
instance : TZ Try.prog 55 Go.Value.nilFunc := ⟨by kernel_rfl⟩
instance : TB Try.prog 55 8 := ⟨by kernel_rfl⟩
instance : TI Try.prog 56 (Go.TypeDesc.func #[43, 3, 3] #[31] false) 1 := ⟨by kernel_rfl, by kernel_rfl⟩
instance : TZ Try.prog 56 Go.Value.nilFunc := ⟨by kernel_rfl⟩
instance : TB Try.prog 56 8 := ⟨by kernel_rfl⟩
instance : TI Try.prog 57 (Go.TypeDesc.func #[24, 43, 41] #[4] false) 1 := ⟨by kernel_rfl, by kernel_rfl⟩
instance : TZ Try.prog 57 Go.Value.nilFunc := ⟨by kernel_rfl⟩
instance : TB Try.prog 57 8 := ⟨by kernel_rfl⟩
instance : TI Try.prog 58 (Go.TypeDesc.array 10 4) 10 := ⟨by kernel_rfl, by kernel_rfl⟩
instance : TZ Try.prog 58 (Go.Value.agg #[(Go.Value.bool false), (Go.Value.bool false), (Go.Value.bool false), (Go.Value.bool false), (Go.Value.bool false), (Go.Value.bool false), (Go.Value.bool false), (Go.Value.bool false), (Go.Value.bool false), (Go.Value.bool false)]) := ⟨by kernel_rfl⟩
instance : TB Try.prog 58 10 := ⟨by kernel_rfl⟩
instance : TI Try.prog 59 (Go.TypeDesc.func #[5, 39] #[4] false) 1 := ⟨by kernel_rfl, by kernel_rfl⟩
instance : TZ Try.prog 59 Go.Value.nilFunc := ⟨by kernel_rfl⟩
instance : TB Try.prog 59 8 := ⟨by kernel_rfl⟩
instance : TI Try.prog 60 (Go.TypeDesc.func #[3, 31] #[26] false) 1 := ⟨by kernel_rfl, by kernel_rfl⟩
instance : TZ Try.prog 60 Go.Value.nilFunc := ⟨by kernel_rfl⟩
instance : TB Try.prog 60 8 := ⟨by kernel_rfl⟩
instance : TI Try.prog 61 (Go.TypeDesc.func #[3] #[26] false) 1 := ⟨by kernel_rfl, by kernel_rfl⟩
instance : TZ Try.prog 61 Go.Value.nilFunc := ⟨by kernel_rfl⟩
instance : TB Try.prog 61 8 := ⟨by kernel_rfl⟩
instance : TI Try.prog 62 (Go.TypeDesc.func #[] #[24] false) 1 := ⟨by kernel_rfl, by kernel_rfl⟩
instance : TZ Try.prog 62 Go.Value.nilFunc := ⟨by kernel_rfl⟩
instance : TB Try.prog 62 8 := ⟨by kernel_rfl⟩
instance : TI Try.prog 63 (Go.TypeDesc.func #[39, 39] #[4] false) 1 := ⟨by kernel_rfl, by kernel_rfl⟩
instance : TZ Try.prog 63 Go.Value.nilFunc := ⟨by kernel_rfl⟩
instance : TB Try.prog 63 8 := ⟨by kernel_rfl⟩
instance : TI Try.prog 64 (Go.TypeDesc.array 3 3) 3 := ⟨by kernel_rfl, by kernel_rfl⟩
instance : TZ Try.prog 64 (Go.Value.agg #[(Go.Value.int Go.IntKind.i64 0), (Go.Value.int Go.IntKind.i64 0), (Go.Value.int Go.IntKind.i64 0)]) := ⟨by kernel_rfl⟩
instance : TB Try.prog 64 24 := ⟨by kernel_rfl⟩
instance : TI Try.prog 65 (Go.TypeDesc.func #[41, 64] #[4] false) 1 := ⟨by kernel_rfl, by kernel_rfl⟩
instance : TZ Try.prog 65 Go.Value.nilFunc := ⟨by kernel_rfl⟩
instance : TB Try.prog 65 8 := ⟨by kernel_rfl⟩
instance : TI Try.prog 66 (Go.TypeDesc.map 3 3) 1 := ⟨by kernel_rfl, by kernel_rfl⟩
instance : TZ Try.prog 66 (Go.Value.map none) := ⟨by kernel_rfl⟩
instance : TB Try.prog 66 8 := ⟨by kernel_rfl⟩
instance : TI Try.prog 67 (Go.TypeDesc.slice 70) 1 := ⟨by kernel_rfl, by kernel_rfl⟩
instance : TZ Try.prog 67 (Go.Value.slice none 0 0) := ⟨by kernel_rfl⟩
instance : TB Try.prog 67 24 := ⟨by kernel_rfl⟩
instance : TI Try.prog 68 (Go.TypeDesc.struct #[⟨"procs", 3, 0, false, "", "boatswain/procs", 0⟩, ⟨"threads", 3, 1, false, "", "boatswain/procs", 8⟩, ⟨"queue", 3, 2, false, "", "boatswain/procs", 16⟩, ⟨"sets", 67, 3, false, "", "boatswain/procs", 24⟩, ⟨"at", 66, 4, false, "", "boatswain/procs", 48⟩]) 5 := ⟨by kernel_rfl, by kernel_rfl⟩
instance : TZ Try.prog 68 (Go.Value.agg #[(Go.Value.int Go.IntKind.i64 0), (Go.Value.int Go.IntKind.i64 0), (Go.Value.int Go.IntKind.i64 0), (Go.Value.slice none 0 0), (Go.Value.map none)]) := ⟨by kernel_rfl⟩
instance : TB Try.prog 68 56 := ⟨by kernel_rfl⟩
instance : FD Try.prog 68 0 0 false 1 := ⟨#[⟨"procs", 3, 0, false, "", "boatswain/procs", 0⟩, ⟨"threads", 3, 1, false, "", "boatswain/procs", 8⟩, ⟨"queue", 3, 2, false, "", "boatswain/procs", 16⟩, ⟨"sets", 67, 3, false, "", "boatswain/procs", 24⟩, ⟨"at", 66, 4, false, "", "boatswain/procs", 48⟩], ⟨"procs", 3, 0, false, "", "boatswain/procs", 0⟩, (Go.TypeDesc.int Go.IntKind.i64), by kernel_rfl, rfl, rfl, by kernel_rfl, rfl, by kernel_rfl⟩
instance : FD Try.prog 68 1 1 false 1 := ⟨#[⟨"procs", 3, 0, false, "", "boatswain/procs", 0⟩, ⟨"threads", 3, 1, false, "", "boatswain/procs", 8⟩, ⟨"queue", 3, 2, false, "", "boatswain/procs", 16⟩, ⟨"sets", 67, 3, false, "", "boatswain/procs", 24⟩, ⟨"at", 66, 4, false, "", "boatswain/procs", 48⟩], ⟨"threads", 3, 1, false, "", "boatswain/procs", 8⟩, (Go.TypeDesc.int Go.IntKind.i64), by kernel_rfl, rfl, rfl, by kernel_rfl, rfl, by kernel_rfl⟩
instance : FD Try.prog 68 2 2 false 1 := ⟨#[⟨"procs", 3, 0, false, "", "boatswain/procs", 0⟩, ⟨"threads", 3, 1, false, "", "boatswain/procs", 8⟩, ⟨"queue", 3, 2, false, "", "boatswain/procs", 16⟩, ⟨"sets", 67, 3, false, "", "boatswain/procs", 24⟩, ⟨"at", 66, 4, false, "", "boatswain/procs", 48⟩], ⟨"queue", 3, 2, false, "", "boatswain/procs", 16⟩, (Go.TypeDesc.int Go.IntKind.i64), by kernel_rfl, rfl, rfl, by kernel_rfl, rfl, by kernel_rfl⟩
instance : FD Try.prog 68 3 3 false 1 := ⟨#[⟨"procs", 3, 0, false, "", "boatswain/procs", 0⟩, ⟨"threads", 3, 1, false, "", "boatswain/procs", 8⟩, ⟨"queue", 3, 2, false, "", "boatswain/procs", 16⟩, ⟨"sets", 67, 3, false, "", "boatswain/procs", 24⟩, ⟨"at", 66, 4, false, "", "boatswain/procs", 48⟩], ⟨"sets", 67, 3, false, "", "boatswain/procs", 24⟩, (Go.TypeDesc.slice 70), by kernel_rfl, rfl, rfl, by kernel_rfl, rfl, by kernel_rfl⟩
instance : FD Try.prog 68 4 4 false 1 := ⟨#[⟨"procs", 3, 0, false, "", "boatswain/procs", 0⟩, ⟨"threads", 3, 1, false, "", "boatswain/procs", 8⟩, ⟨"queue", 3, 2, false, "", "boatswain/procs", 16⟩, ⟨"sets", 67, 3, false, "", "boatswain/procs", 24⟩, ⟨"at", 66, 4, false, "", "boatswain/procs", 48⟩], ⟨"at", 66, 4, false, "", "boatswain/procs", 48⟩, (Go.TypeDesc.map 3 3), by kernel_rfl, rfl, rfl, by kernel_rfl, rfl, by kernel_rfl⟩
instance : TF Try.prog 68 #[(0, 1), (1, 1), (2, 1), (3, 1), (4, 1)] := ⟨#[⟨"procs", 3, 0, false, "", "boatswain/procs", 0⟩, ⟨"threads", 3, 1, false, "", "boatswain/procs", 8⟩, ⟨"queue", 3, 2, false, "", "boatswain/procs", 16⟩, ⟨"sets", 67, 3, false, "", "boatswain/procs", 24⟩, ⟨"at", 66, 4, false, "", "boatswain/procs", 48⟩], by kernel_rfl, fun w => by kernel_rfl⟩
instance : TI Try.prog 69 (Go.TypeDesc.struct #[⟨"procs", 3, 0, false, "", "boatswain/procs", 0⟩, ⟨"threads", 3, 1, false, "", "boatswain/procs", 8⟩, ⟨"queue", 3, 2, false, "", "boatswain/procs", 16⟩, ⟨"sets", 67, 3, false, "", "boatswain/procs", 24⟩, ⟨"at", 66, 4, false, "", "boatswain/procs", 48⟩]) 5 := ⟨by kernel_rfl, by kernel_rfl⟩
instance : TZ Try.prog 69 (Go.Value.agg #[(Go.Value.int Go.IntKind.i64 0), (Go.Value.int Go.IntKind.i64 0), (Go.Value.int Go.IntKind.i64 0), (Go.Value.slice none 0 0), (Go.Value.map none)]) := ⟨by kernel_rfl⟩
instance : TB Try.prog 69 56 := ⟨by kernel_rfl⟩
instance : FD Try.prog 69 0 0 false 1 := ⟨#[⟨"procs", 3, 0, false, "", "boatswain/procs", 0⟩, ⟨"threads", 3, 1, false, "", "boatswain/procs", 8⟩, ⟨"queue", 3, 2, false, "", "boatswain/procs", 16⟩, ⟨"sets", 67, 3, false, "", "boatswain/procs", 24⟩, ⟨"at", 66, 4, false, "", "boatswain/procs", 48⟩], ⟨"procs", 3, 0, false, "", "boatswain/procs", 0⟩, (Go.TypeDesc.int Go.IntKind.i64), by kernel_rfl, rfl, rfl, by kernel_rfl, rfl, by kernel_rfl⟩
instance : FD Try.prog 69 1 1 false 1 := ⟨#[⟨"procs", 3, 0, false, "", "boatswain/procs", 0⟩, ⟨"threads", 3, 1, false, "", "boatswain/procs", 8⟩, ⟨"queue", 3, 2, false, "", "boatswain/procs", 16⟩, ⟨"sets", 67, 3, false, "", "boatswain/procs", 24⟩, ⟨"at", 66, 4, false, "", "boatswain/procs", 48⟩], ⟨"threads", 3, 1, false, "", "boatswain/procs", 8⟩, (Go.TypeDesc.int Go.IntKind.i64), by kernel_rfl, rfl, rfl, by kernel_rfl, rfl, by kernel_rfl⟩
instance : FD Try.prog 69 2 2 false 1 := ⟨#[⟨"procs", 3, 0, false, "", "boatswain/procs", 0⟩, ⟨"threads", 3, 1, false, "", "boatswain/procs", 8⟩, ⟨"queue", 3, 2, false, "", "boatswain/procs", 16⟩, ⟨"sets", 67, 3, false, "", "boatswain/procs", 24⟩, ⟨"at", 66, 4, false, "", "boatswain/procs", 48⟩], ⟨"queue", 3, 2, false, "", "boatswain/procs", 16⟩, (Go.TypeDesc.int Go.IntKind.i64), by kernel_rfl, rfl, rfl, by kernel_rfl, rfl, by kernel_rfl⟩
instance : FD Try.prog 69 3 3 false 1 := ⟨#[⟨"procs", 3, 0, false, "", "boatswain/procs", 0⟩, ⟨"threads", 3, 1, false, "", "boatswain/procs", 8⟩, ⟨"queue", 3, 2, false, "", "boatswain/procs", 16⟩, ⟨"sets", 67, 3, false, "", "boatswain/procs", 24⟩, ⟨"at", 66, 4, false, "", "boatswain/procs", 48⟩], ⟨"sets", 67, 3, false, "", "boatswain/procs", 24⟩, (Go.TypeDesc.slice 70), by kernel_rfl, rfl, rfl, by kernel_rfl, rfl, by kernel_rfl⟩
instance : FD Try.prog 69 4 4 false 1 := ⟨#[⟨"procs", 3, 0, false, "", "boatswain/procs", 0⟩, ⟨"threads", 3, 1, false, "", "boatswain/procs", 8⟩, ⟨"queue", 3, 2, false, "", "boatswain/procs", 16⟩, ⟨"sets", 67, 3, false, "", "boatswain/procs", 24⟩, ⟨"at", 66, 4, false, "", "boatswain/procs", 48⟩], ⟨"at", 66, 4, false, "", "boatswain/procs", 48⟩, (Go.TypeDesc.map 3 3), by kernel_rfl, rfl, rfl, by kernel_rfl, rfl, by kernel_rfl⟩
instance : TF Try.prog 69 #[(0, 1), (1, 1), (2, 1), (3, 1), (4, 1)] := ⟨#[⟨"procs", 3, 0, false, "", "boatswain/procs", 0⟩, ⟨"threads", 3, 1, false, "", "boatswain/procs", 8⟩, ⟨"queue", 3, 2, false, "", "boatswain/procs", 16⟩, ⟨"sets", 67, 3, false, "", "boatswain/procs", 24⟩, ⟨"at", 66, 4, false, "", "boatswain/procs", 48⟩], by kernel_rfl, fun w => by kernel_rfl⟩
instance : TI Try.prog 70 (Go.TypeDesc.pointer 97) 1 := ⟨by kernel_rfl, by kernel_rfl⟩
instance : TZ Try.prog 70 (Go.Value.pointer none) := ⟨by kernel_rfl⟩
instance : TB Try.prog 70 8 := ⟨by kernel_rfl⟩
instance : TI Try.prog 71 (Go.TypeDesc.func #[3, 3] #[70] false) 1 := ⟨by kernel_rfl, by kernel_rfl⟩
instance : TZ Try.prog 71 Go.Value.nilFunc := ⟨by kernel_rfl⟩
instance : TB Try.prog 71 8 := ⟨by kernel_rfl⟩
instance : TI Try.prog 72 (Go.TypeDesc.func #[3, 4, 4] #[26] false) 1 := ⟨by kernel_rfl, by kernel_rfl⟩
instance : TZ Try.prog 72 Go.Value.nilFunc := ⟨by kernel_rfl⟩
instance : TB Try.prog 72 8 := ⟨by kernel_rfl⟩
instance : TI Try.prog 73 (Go.TypeDesc.func #[3] #[4] false) 1 := ⟨by kernel_rfl, by kernel_rfl⟩
instance : TZ Try.prog 73 Go.Value.nilFunc := ⟨by kernel_rfl⟩
instance : TB Try.prog 73 8 := ⟨by kernel_rfl⟩
instance : TI Try.prog 74 (Go.TypeDesc.func #[31] #[4] false) 1 := ⟨by kernel_rfl, by kernel_rfl⟩
instance : TZ Try.prog 74 Go.Value.nilFunc := ⟨by kernel_rfl⟩
instance : TB Try.prog 74 8 := ⟨by kernel_rfl⟩
instance : TI Try.prog 75 (Go.TypeDesc.func #[73] #[] false) 1 := ⟨by kernel_rfl, by kernel_rfl⟩
instance : TZ Try.prog 75 Go.Value.nilFunc := ⟨by kernel_rfl⟩
instance : TB Try.prog 75 8 := ⟨by kernel_rfl⟩
instance : TI Try.prog 76 (Go.TypeDesc.func #[73] #[] false) 1 := ⟨by kernel_rfl, by kernel_rfl⟩
instance : TZ Try.prog 76 Go.Value.nilFunc := ⟨by kernel_rfl⟩
instance : TB Try.prog 76 8 := ⟨by kernel_rfl⟩
instance : TI Try.prog 77 (Go.TypeDesc.func #[3, 29] #[76] false) 1 := ⟨by kernel_rfl, by kernel_rfl⟩
instance : TZ Try.prog 77 Go.Value.nilFunc := ⟨by kernel_rfl⟩
instance : TB Try.prog 77 8 := ⟨by kernel_rfl⟩
instance : TI Try.prog 78 (Go.TypeDesc.tuple #[3, 31, 4]) 1 := ⟨by kernel_rfl, by kernel_rfl⟩
instance : TZ Try.prog 78 (Go.Value.tuple #[(Go.Value.int Go.IntKind.i64 0), (Go.Value.agg #[(Go.Value.bool false), (Go.Value.int Go.IntKind.u64 0), (Go.Value.int Go.IntKind.u8 0)]), (Go.Value.bool false)]) := ⟨by kernel_rfl⟩
instance : TB Try.prog 78 0 := ⟨by kernel_rfl⟩
instance : TI Try.prog 79 (Go.TypeDesc.func #[] #[3, 31, 4] false) 1 := ⟨by kernel_rfl, by kernel_rfl⟩
instance : TZ Try.prog 79 Go.Value.nilFunc := ⟨by kernel_rfl⟩
instance : TB Try.prog 79 8 := ⟨by kernel_rfl⟩
instance : TI Try.prog 80 (Go.TypeDesc.func #[3, 3, 3] #[43] false) 1 := ⟨by kernel_rfl, by kernel_rfl⟩
instance : TZ Try.prog 80 Go.Value.nilFunc := ⟨by kernel_rfl⟩
instance : TB Try.prog 80 8 := ⟨by kernel_rfl⟩
instance : TI Try.prog 81 (Go.TypeDesc.func #[29, 29] #[29] false) 1 := ⟨by kernel_rfl, by kernel_rfl⟩
instance : TZ Try.prog 81 Go.Value.nilFunc := ⟨by kernel_rfl⟩
instance : TB Try.prog 81 8 := ⟨by kernel_rfl⟩
instance : TI Try.prog 82 (Go.TypeDesc.slice 85) 1 := ⟨by kernel_rfl, by kernel_rfl⟩
instance : TZ Try.prog 82 (Go.Value.slice none 0 0) := ⟨by kernel_rfl⟩
instance : TB Try.prog 82 24 := ⟨by kernel_rfl⟩
instance : TI Try.prog 83 (Go.TypeDesc.struct #[⟨"procs", 3, 0, false, "", "boatswain/boatswainref11", 0⟩, ⟨"threads", 3, 1, false, "", "boatswain/boatswainref11", 8⟩, ⟨"queue", 3, 2, false, "", "boatswain/boatswainref11", 16⟩, ⟨"l", 82, 3, false, "", "boatswain/boatswainref11", 24⟩]) 4 := ⟨by kernel_rfl, by kernel_rfl⟩
instance : TZ Try.prog 83 (Go.Value.agg #[(Go.Value.int Go.IntKind.i64 0), (Go.Value.int Go.IntKind.i64 0), (Go.Value.int Go.IntKind.i64 0), (Go.Value.slice none 0 0)]) := ⟨by kernel_rfl⟩
instance : TB Try.prog 83 48 := ⟨by kernel_rfl⟩
instance : FD Try.prog 83 0 0 false 1 := ⟨#[⟨"procs", 3, 0, false, "", "boatswain/boatswainref11", 0⟩, ⟨"threads", 3, 1, false, "", "boatswain/boatswainref11", 8⟩, ⟨"queue", 3, 2, false, "", "boatswain/boatswainref11", 16⟩, ⟨"l", 82, 3, false, "", "boatswain/boatswainref11", 24⟩], ⟨"procs", 3, 0, false, "", "boatswain/boatswainref11", 0⟩, (Go.TypeDesc.int Go.IntKind.i64), by kernel_rfl, rfl, rfl, by kernel_rfl, rfl, by kernel_rfl⟩
instance : FD Try.prog 83 1 1 false 1 := ⟨#[⟨"procs", 3, 0, false, "", "boatswain/boatswainref11", 0⟩, ⟨"threads", 3, 1, false, "", "boatswain/boatswainref11", 8⟩, ⟨"queue", 3, 2, false, "", "boatswain/boatswainref11", 16⟩, ⟨"l", 82, 3, false, "", "boatswain/boatswainref11", 24⟩], ⟨"threads", 3, 1, false, "", "boatswain/boatswainref11", 8⟩, (Go.TypeDesc.int Go.IntKind.i64), by kernel_rfl, rfl, rfl, by kernel_rfl, rfl, by kernel_rfl⟩
instance : FD Try.prog 83 2 2 false 1 := ⟨#[⟨"procs", 3, 0, false, "", "boatswain/boatswainref11", 0⟩, ⟨"threads", 3, 1, false, "", "boatswain/boatswainref11", 8⟩, ⟨"queue", 3, 2, false, "", "boatswain/boatswainref11", 16⟩, ⟨"l", 82, 3, false, "", "boatswain/boatswainref11", 24⟩], ⟨"queue", 3, 2, false, "", "boatswain/boatswainref11", 16⟩, (Go.TypeDesc.int Go.IntKind.i64), by kernel_rfl, rfl, rfl, by kernel_rfl, rfl, by kernel_rfl⟩
instance : FD Try.prog 83 3 3 false 1 := ⟨#[⟨"procs", 3, 0, false, "", "boatswain/boatswainref11", 0⟩, ⟨"threads", 3, 1, false, "", "boatswain/boatswainref11", 8⟩, ⟨"queue", 3, 2, false, "", "boatswain/boatswainref11", 16⟩, ⟨"l", 82, 3, false, "", "boatswain/boatswainref11", 24⟩], ⟨"l", 82, 3, false, "", "boatswain/boatswainref11", 24⟩, (Go.TypeDesc.slice 85), by kernel_rfl, rfl, rfl, by kernel_rfl, rfl, by kernel_rfl⟩
instance : TF Try.prog 83 #[(0, 1), (1, 1), (2, 1), (3, 1)] := ⟨#[⟨"procs", 3, 0, false, "", "boatswain/boatswainref11", 0⟩, ⟨"threads", 3, 1, false, "", "boatswain/boatswainref11", 8⟩, ⟨"queue", 3, 2, false, "", "boatswain/boatswainref11", 16⟩, ⟨"l", 82, 3, false, "", "boatswain/boatswainref11", 24⟩], by kernel_rfl, fun w => by kernel_rfl⟩
instance : TI Try.prog 84 (Go.TypeDesc.struct #[⟨"procs", 3, 0, false, "", "boatswain/boatswainref11", 0⟩, ⟨"threads", 3, 1, false, "", "boatswain/boatswainref11", 8⟩, ⟨"queue", 3, 2, false, "", "boatswain/boatswainref11", 16⟩, ⟨"l", 82, 3, false, "", "boatswain/boatswainref11", 24⟩]) 4 := ⟨by kernel_rfl, by kernel_rfl⟩
instance : TZ Try.prog 84 (Go.Value.agg #[(Go.Value.int Go.IntKind.i64 0), (Go.Value.int Go.IntKind.i64 0), (Go.Value.int Go.IntKind.i64 0), (Go.Value.slice none 0 0)]) := ⟨by kernel_rfl⟩
instance : TB Try.prog 84 48 := ⟨by kernel_rfl⟩
instance : FD Try.prog 84 0 0 false 1 := ⟨#[⟨"procs", 3, 0, false, "", "boatswain/boatswainref11", 0⟩, ⟨"threads", 3, 1, false, "", "boatswain/boatswainref11", 8⟩, ⟨"queue", 3, 2, false, "", "boatswain/boatswainref11", 16⟩, ⟨"l", 82, 3, false, "", "boatswain/boatswainref11", 24⟩], ⟨"procs", 3, 0, false, "", "boatswain/boatswainref11", 0⟩, (Go.TypeDesc.int Go.IntKind.i64), by kernel_rfl, rfl, rfl, by kernel_rfl, rfl, by kernel_rfl⟩
instance : FD Try.prog 84 1 1 false 1 := ⟨#[⟨"procs", 3, 0, false, "", "boatswain/boatswainref11", 0⟩, ⟨"threads", 3, 1, false, "", "boatswain/boatswainref11", 8⟩, ⟨"queue", 3, 2, false, "", "boatswain/boatswainref11", 16⟩, ⟨"l", 82, 3, false, "", "boatswain/boatswainref11", 24⟩], ⟨"threads", 3, 1, false, "", "boatswain/boatswainref11", 8⟩, (Go.TypeDesc.int Go.IntKind.i64), by kernel_rfl, rfl, rfl, by kernel_rfl, rfl, by kernel_rfl⟩
instance : FD Try.prog 84 2 2 false 1 := ⟨#[⟨"procs", 3, 0, false, "", "boatswain/boatswainref11", 0⟩, ⟨"threads", 3, 1, false, "", "boatswain/boatswainref11", 8⟩, ⟨"queue", 3, 2, false, "", "boatswain/boatswainref11", 16⟩, ⟨"l", 82, 3, false, "", "boatswain/boatswainref11", 24⟩], ⟨"queue", 3, 2, false, "", "boatswain/boatswainref11", 16⟩, (Go.TypeDesc.int Go.IntKind.i64), by kernel_rfl, rfl, rfl, by kernel_rfl, rfl, by kernel_rfl⟩
instance : FD Try.prog 84 3 3 false 1 := ⟨#[⟨"procs", 3, 0, false, "", "boatswain/boatswainref11", 0⟩, ⟨"threads", 3, 1, false, "", "boatswain/boatswainref11", 8⟩, ⟨"queue", 3, 2, false, "", "boatswain/boatswainref11", 16⟩, ⟨"l", 82, 3, false, "", "boatswain/boatswainref11", 24⟩], ⟨"l", 82, 3, false, "", "boatswain/boatswainref11", 24⟩, (Go.TypeDesc.slice 85), by kernel_rfl, rfl, rfl, by kernel_rfl, rfl, by kernel_rfl⟩
instance : TF Try.prog 84 #[(0, 1), (1, 1), (2, 1), (3, 1)] := ⟨#[⟨"procs", 3, 0, false, "", "boatswain/boatswainref11", 0⟩, ⟨"threads", 3, 1, false, "", "boatswain/boatswainref11", 8⟩, ⟨"queue", 3, 2, false, "", "boatswain/boatswainref11", 16⟩, ⟨"l", 82, 3, false, "", "boatswain/boatswainref11", 24⟩], by kernel_rfl, fun w => by kernel_rfl⟩
instance : TI Try.prog 85 (Go.TypeDesc.pointer 107) 1 := ⟨by kernel_rfl, by kernel_rfl⟩
instance : TZ Try.prog 85 (Go.Value.pointer none) := ⟨by kernel_rfl⟩
instance : TB Try.prog 85 8 := ⟨by kernel_rfl⟩
instance : TI Try.prog 86 (Go.TypeDesc.func #[] #[53] false) 1 := ⟨by kernel_rfl, by kernel_rfl⟩
instance : TZ Try.prog 86 Go.Value.nilFunc := ⟨by kernel_rfl⟩
instance : TB Try.prog 86 8 := ⟨by kernel_rfl⟩
instance : TI Try.prog 87 (Go.TypeDesc.func #[] #[85] false) 1 := ⟨by kernel_rfl, by kernel_rfl⟩
instance : TZ Try.prog 87 Go.Value.nilFunc := ⟨by kernel_rfl⟩
instance : TB Try.prog 87 8 := ⟨by kernel_rfl⟩
instance : TI Try.prog 88 (Go.TypeDesc.func #[53, 53] #[4] false) 1 := ⟨by kernel_rfl, by kernel_rfl⟩
instance : TZ Try.prog 88 Go.Value.nilFunc := ⟨by kernel_rfl⟩
instance : TB Try.prog 88 8 := ⟨by kernel_rfl⟩
instance : TI Try.prog 89 (Go.TypeDesc.func #[] #[70] false) 1 := ⟨by kernel_rfl, by kernel_rfl⟩
instance : TZ Try.prog 89 Go.Value.nilFunc := ⟨by kernel_rfl⟩
instance : TB Try.prog 89 8 := ⟨by kernel_rfl⟩
instance : TI Try.prog 90 (Go.TypeDesc.pointer 118) 1 := ⟨by kernel_rfl, by kernel_rfl⟩
instance : TZ Try.prog 90 (Go.Value.pointer none) := ⟨by kernel_rfl⟩
instance : TB Try.prog 90 8 := ⟨by kernel_rfl⟩
instance : TI Try.prog 91 (Go.TypeDesc.func #[3] #[90] false) 1 := ⟨by kernel_rfl, by kernel_rfl⟩
instance : TZ Try.prog 91 Go.Value.nilFunc := ⟨by kernel_rfl⟩
instance : TB Try.prog 91 8 := ⟨by kernel_rfl⟩
instance : TI Try.prog 92 (Go.TypeDesc.pointer 121) 1 := ⟨by kernel_rfl, by kernel_rfl⟩
instance : TZ Try.prog 92 (Go.Value.pointer none) := ⟨by kernel_rfl⟩
instance : TB Try.prog 92 8 := ⟨by kernel_rfl⟩
instance : TI Try.prog 93 (Go.TypeDesc.func #[3] #[92] false) 1 := ⟨by kernel_rfl, by kernel_rfl⟩
instance : TZ Try.prog 93 Go.Value.nilFunc := ⟨by kernel_rfl⟩
instance : TB Try.prog 93 8 := ⟨by kernel_rfl⟩
instance : TI Try.prog 94 (Go.TypeDesc.struct #[⟨"queue", 90, 0, false, "", "boatswain/ready", 0⟩, ⟨"heap", 92, 1, false, "", "boatswain/ready", 8⟩]) 2 := ⟨by kernel_rfl, by kernel_rfl⟩
instance : TZ Try.prog 94 (Go.Value.agg #[(Go.Value.pointer none), (Go.Value.pointer none)]) := ⟨by kernel_rfl⟩
instance : TB Try.prog 94 16 := ⟨by kernel_rfl⟩
instance : FD Try.prog 94 0 0 false 1 := ⟨#[⟨"queue", 90, 0, false, "", "boatswain/ready", 0⟩, ⟨"heap", 92, 1, false, "", "boatswain/ready", 8⟩], ⟨"queue", 90, 0, false, "", "boatswain/ready", 0⟩, (Go.TypeDesc.pointer 118), by kernel_rfl, rfl, rfl, by kernel_rfl, rfl, by kernel_rfl⟩
instance : FD Try.prog 94 1 1 false 1 := ⟨#[⟨"queue", 90, 0, false, "", "boatswain/ready", 0⟩, ⟨"heap", 92, 1, false, "", "boatswain/ready", 8⟩], ⟨"heap", 92, 1, false, "", "boatswain/ready", 8⟩, (Go.TypeDesc.pointer 121), by kernel_rfl, rfl, rfl, by kernel_rfl, rfl, by kernel_rfl⟩
instance : TF Try.prog 94 #[(0, 1), (1, 1)] := ⟨#[⟨"queue", 90, 0, false, "", "boatswain/ready", 0⟩, ⟨"heap", 92, 1, false, "", "boatswain/ready", 8⟩], by kernel_rfl, fun w => by kernel_rfl⟩
instance : TI Try.prog 95 (Go.TypeDesc.struct #[⟨"queue", 90, 0, false, "", "boatswain/ready", 0⟩, ⟨"heap", 92, 1, false, "", "boatswain/ready", 8⟩]) 2 := ⟨by kernel_rfl, by kernel_rfl⟩
instance : TZ Try.prog 95 (Go.Value.agg #[(Go.Value.pointer none), (Go.Value.pointer none)]) := ⟨by kernel_rfl⟩
instance : TB Try.prog 95 16 := ⟨by kernel_rfl⟩
instance : FD Try.prog 95 0 0 false 1 := ⟨#[⟨"queue", 90, 0, false, "", "boatswain/ready", 0⟩, ⟨"heap", 92, 1, false, "", "boatswain/ready", 8⟩], ⟨"queue", 90, 0, false, "", "boatswain/ready", 0⟩, (Go.TypeDesc.pointer 118), by kernel_rfl, rfl, rfl, by kernel_rfl, rfl, by kernel_rfl⟩
instance : FD Try.prog 95 1 1 false 1 := ⟨#[⟨"queue", 90, 0, false, "", "boatswain/ready", 0⟩, ⟨"heap", 92, 1, false, "", "boatswain/ready", 8⟩], ⟨"heap", 92, 1, false, "", "boatswain/ready", 8⟩, (Go.TypeDesc.pointer 121), by kernel_rfl, rfl, rfl, by kernel_rfl, rfl, by kernel_rfl⟩
instance : TF Try.prog 95 #[(0, 1), (1, 1)] := ⟨#[⟨"queue", 90, 0, false, "", "boatswain/ready", 0⟩, ⟨"heap", 92, 1, false, "", "boatswain/ready", 8⟩], by kernel_rfl, fun w => by kernel_rfl⟩
instance : TI Try.prog 96 (Go.TypeDesc.struct #[⟨"parts", 95, 0, true, "", "boatswain/ready", 0⟩, ⟨"n", 3, 2, false, "", "boatswain/ready", 16⟩, ⟨"most", 3, 3, false, "", "boatswain/ready", 24⟩, ⟨"seq", 29, 4, false, "", "boatswain/ready", 32⟩]) 5 := ⟨by kernel_rfl, by kernel_rfl⟩
instance : TZ Try.prog 96 (Go.Value.agg #[(Go.Value.pointer none), (Go.Value.pointer none), (Go.Value.int Go.IntKind.i64 0), (Go.Value.int Go.IntKind.i64 0), (Go.Value.int Go.IntKind.u64 0)]) := ⟨by kernel_rfl⟩
instance : TB Try.prog 96 40 := ⟨by kernel_rfl⟩
instance : FD Try.prog 96 0 0 true 2 := ⟨#[⟨"parts", 95, 0, true, "", "boatswain/ready", 0⟩, ⟨"n", 3, 2, false, "", "boatswain/ready", 16⟩, ⟨"most", 3, 3, false, "", "boatswain/ready", 24⟩, ⟨"seq", 29, 4, false, "", "boatswain/ready", 32⟩], ⟨"parts", 95, 0, true, "", "boatswain/ready", 0⟩, (Go.TypeDesc.struct #[⟨"queue", 90, 0, false, "", "boatswain/ready", 0⟩, ⟨"heap", 92, 1, false, "", "boatswain/ready", 8⟩]), by kernel_rfl, rfl, rfl, by kernel_rfl, rfl, by kernel_rfl⟩
instance : FD Try.prog 96 1 2 false 1 := ⟨#[⟨"parts", 95, 0, true, "", "boatswain/ready", 0⟩, ⟨"n", 3, 2, false, "", "boatswain/ready", 16⟩, ⟨"most", 3, 3, false, "", "boatswain/ready", 24⟩, ⟨"seq", 29, 4, false, "", "boatswain/ready", 32⟩], ⟨"n", 3, 2, false, "", "boatswain/ready", 16⟩, (Go.TypeDesc.int Go.IntKind.i64), by kernel_rfl, rfl, rfl, by kernel_rfl, rfl, by kernel_rfl⟩
instance : FD Try.prog 96 2 3 false 1 := ⟨#[⟨"parts", 95, 0, true, "", "boatswain/ready", 0⟩, ⟨"n", 3, 2, false, "", "boatswain/ready", 16⟩, ⟨"most", 3, 3, false, "", "boatswain/ready", 24⟩, ⟨"seq", 29, 4, false, "", "boatswain/ready", 32⟩], ⟨"most", 3, 3, false, "", "boatswain/ready", 24⟩, (Go.TypeDesc.int Go.IntKind.i64), by kernel_rfl, rfl, rfl, by kernel_rfl, rfl, by kernel_rfl⟩
instance : FD Try.prog 96 3 4 false 1 := ⟨#[⟨"parts", 95, 0, true, "", "boatswain/ready", 0⟩, ⟨"n", 3, 2, false, "", "boatswain/ready", 16⟩, ⟨"most", 3, 3, false, "", "boatswain/ready", 24⟩, ⟨"seq", 29, 4, false, "", "boatswain/ready", 32⟩], ⟨"seq", 29, 4, false, "", "boatswain/ready", 32⟩, (Go.TypeDesc.int Go.IntKind.u64), by kernel_rfl, rfl, rfl, by kernel_rfl, rfl, by kernel_rfl⟩
instance : TF Try.prog 96 #[(0, 2), (2, 1), (3, 1), (4, 1)] := ⟨#[⟨"parts", 95, 0, true, "", "boatswain/ready", 0⟩, ⟨"n", 3, 2, false, "", "boatswain/ready", 16⟩, ⟨"most", 3, 3, false, "", "boatswain/ready", 24⟩, ⟨"seq", 29, 4, false, "", "boatswain/ready", 32⟩], by kernel_rfl, fun w => by kernel_rfl⟩
instance : TI Try.prog 97 (Go.TypeDesc.struct #[⟨"parts", 95, 0, true, "", "boatswain/ready", 0⟩, ⟨"n", 3, 2, false, "", "boatswain/ready", 16⟩, ⟨"most", 3, 3, false, "", "boatswain/ready", 24⟩, ⟨"seq", 29, 4, false, "", "boatswain/ready", 32⟩]) 5 := ⟨by kernel_rfl, by kernel_rfl⟩
instance : TZ Try.prog 97 (Go.Value.agg #[(Go.Value.pointer none), (Go.Value.pointer none), (Go.Value.int Go.IntKind.i64 0), (Go.Value.int Go.IntKind.i64 0), (Go.Value.int Go.IntKind.u64 0)]) := ⟨by kernel_rfl⟩
instance : TB Try.prog 97 40 := ⟨by kernel_rfl⟩
instance : FD Try.prog 97 0 0 true 2 := ⟨#[⟨"parts", 95, 0, true, "", "boatswain/ready", 0⟩, ⟨"n", 3, 2, false, "", "boatswain/ready", 16⟩, ⟨"most", 3, 3, false, "", "boatswain/ready", 24⟩, ⟨"seq", 29, 4, false, "", "boatswain/ready", 32⟩], ⟨"parts", 95, 0, true, "", "boatswain/ready", 0⟩, (Go.TypeDesc.struct #[⟨"queue", 90, 0, false, "", "boatswain/ready", 0⟩, ⟨"heap", 92, 1, false, "", "boatswain/ready", 8⟩]), by kernel_rfl, rfl, rfl, by kernel_rfl, rfl, by kernel_rfl⟩
instance : FD Try.prog 97 1 2 false 1 := ⟨#[⟨"parts", 95, 0, true, "", "boatswain/ready", 0⟩, ⟨"n", 3, 2, false, "", "boatswain/ready", 16⟩, ⟨"most", 3, 3, false, "", "boatswain/ready", 24⟩, ⟨"seq", 29, 4, false, "", "boatswain/ready", 32⟩], ⟨"n", 3, 2, false, "", "boatswain/ready", 16⟩, (Go.TypeDesc.int Go.IntKind.i64), by kernel_rfl, rfl, rfl, by kernel_rfl, rfl, by kernel_rfl⟩
instance : FD Try.prog 97 2 3 false 1 := ⟨#[⟨"parts", 95, 0, true, "", "boatswain/ready", 0⟩, ⟨"n", 3, 2, false, "", "boatswain/ready", 16⟩, ⟨"most", 3, 3, false, "", "boatswain/ready", 24⟩, ⟨"seq", 29, 4, false, "", "boatswain/ready", 32⟩], ⟨"most", 3, 3, false, "", "boatswain/ready", 24⟩, (Go.TypeDesc.int Go.IntKind.i64), by kernel_rfl, rfl, rfl, by kernel_rfl, rfl, by kernel_rfl⟩
instance : FD Try.prog 97 3 4 false 1 := ⟨#[⟨"parts", 95, 0, true, "", "boatswain/ready", 0⟩, ⟨"n", 3, 2, false, "", "boatswain/ready", 16⟩, ⟨"most", 3, 3, false, "", "boatswain/ready", 24⟩, ⟨"seq", 29, 4, false, "", "boatswain/ready", 32⟩], ⟨"seq", 29, 4, false, "", "boatswain/ready", 32⟩, (Go.TypeDesc.int Go.IntKind.u64), by kernel_rfl, rfl, rfl, by kernel_rfl, rfl, by kernel_rfl⟩
instance : TF Try.prog 97 #[(0, 2), (2, 1), (3, 1), (4, 1)] := ⟨#[⟨"parts", 95, 0, true, "", "boatswain/ready", 0⟩, ⟨"n", 3, 2, false, "", "boatswain/ready", 16⟩, ⟨"most", 3, 3, false, "", "boatswain/ready", 24⟩, ⟨"seq", 29, 4, false, "", "boatswain/ready", 32⟩], by kernel_rfl, fun w => by kernel_rfl⟩
instance : TI Try.prog 98 (Go.TypeDesc.func #[3, 31] #[] false) 1 := ⟨by kernel_rfl, by kernel_rfl⟩
instance : TZ Try.prog 98 Go.Value.nilFunc := ⟨by kernel_rfl⟩
instance : TB Try.prog 98 8 := ⟨by kernel_rfl⟩
instance : TI Try.prog 99 (Go.TypeDesc.func #[] #[3, 4] false) 1 := ⟨by kernel_rfl, by kernel_rfl⟩
instance : TZ Try.prog 99 Go.Value.nilFunc := ⟨by kernel_rfl⟩
instance : TB Try.prog 99 8 := ⟨by kernel_rfl⟩
instance : TI Try.prog 100 (Go.TypeDesc.tuple #[29, 29, 4]) 1 := ⟨by kernel_rfl, by kernel_rfl⟩
instance : TZ Try.prog 100 (Go.Value.tuple #[(Go.Value.int Go.IntKind.u64 0), (Go.Value.int Go.IntKind.u64 0), (Go.Value.bool false)]) := ⟨by kernel_rfl⟩
instance : TB Try.prog 100 0 := ⟨by kernel_rfl⟩
instance : TI Try.prog 101 (Go.TypeDesc.func #[3] #[29, 29, 4] false) 1 := ⟨by kernel_rfl, by kernel_rfl⟩
instance : TZ Try.prog 101 Go.Value.nilFunc := ⟨by kernel_rfl⟩
instance : TB Try.prog 101 8 := ⟨by kernel_rfl⟩
instance : TI Try.prog 102 (Go.TypeDesc.tuple #[5, 3, 4]) 1 := ⟨by kernel_rfl, by kernel_rfl⟩
instance : TZ Try.prog 102 (Go.Value.tuple #[(Go.Value.int Go.IntKind.u8 0), (Go.Value.int Go.IntKind.i64 0), (Go.Value.bool false)]) := ⟨by kernel_rfl⟩
instance : TB Try.prog 102 0 := ⟨by kernel_rfl⟩
instance : TI Try.prog 103 (Go.TypeDesc.func #[] #[5, 3, 4] false) 1 := ⟨by kernel_rfl, by kernel_rfl⟩
instance : TZ Try.prog 103 Go.Value.nilFunc := ⟨by kernel_rfl⟩
instance : TB Try.prog 103 8 := ⟨by kernel_rfl⟩
instance : TI Try.prog 104 (Go.TypeDesc.func #[3, 3] #[85] false) 1 := ⟨by kernel_rfl, by kernel_rfl⟩
instance : TZ Try.prog 104 Go.Value.nilFunc := ⟨by kernel_rfl⟩
instance : TB Try.prog 104 8 := ⟨by kernel_rfl⟩
instance : TI Try.prog 105 (Go.TypeDesc.slice 133) 1 := ⟨by kernel_rfl, by kernel_rfl⟩
instance : TZ Try.prog 105 (Go.Value.slice none 0 0) := ⟨by kernel_rfl⟩
instance : TB Try.prog 105 24 := ⟨by kernel_rfl⟩
instance : TI Try.prog 106 (Go.TypeDesc.struct #[⟨"n", 3, 0, false, "", "boatswain/boatswainref10", 0⟩, ⟨"most", 3, 1, false, "", "boatswain/boatswainref10", 8⟩, ⟨"l", 105, 2, false, "", "boatswain/boatswainref10", 16⟩]) 3 := ⟨by kernel_rfl, by kernel_rfl⟩
instance : TZ Try.prog 106 (Go.Value.agg #[(Go.Value.int Go.IntKind.i64 0), (Go.Value.int Go.IntKind.i64 0), (Go.Value.slice none 0 0)]) := ⟨by kernel_rfl⟩
instance : TB Try.prog 106 40 := ⟨by kernel_rfl⟩
instance : FD Try.prog 106 0 0 false 1 := ⟨#[⟨"n", 3, 0, false, "", "boatswain/boatswainref10", 0⟩, ⟨"most", 3, 1, false, "", "boatswain/boatswainref10", 8⟩, ⟨"l", 105, 2, false, "", "boatswain/boatswainref10", 16⟩], ⟨"n", 3, 0, false, "", "boatswain/boatswainref10", 0⟩, (Go.TypeDesc.int Go.IntKind.i64), by kernel_rfl, rfl, rfl, by kernel_rfl, rfl, by kernel_rfl⟩
instance : FD Try.prog 106 1 1 false 1 := ⟨#[⟨"n", 3, 0, false, "", "boatswain/boatswainref10", 0⟩, ⟨"most", 3, 1, false, "", "boatswain/boatswainref10", 8⟩, ⟨"l", 105, 2, false, "", "boatswain/boatswainref10", 16⟩], ⟨"most", 3, 1, false, "", "boatswain/boatswainref10", 8⟩, (Go.TypeDesc.int Go.IntKind.i64), by kernel_rfl, rfl, rfl, by kernel_rfl, rfl, by kernel_rfl⟩
instance : FD Try.prog 106 2 2 false 1 := ⟨#[⟨"n", 3, 0, false, "", "boatswain/boatswainref10", 0⟩, ⟨"most", 3, 1, false, "", "boatswain/boatswainref10", 8⟩, ⟨"l", 105, 2, false, "", "boatswain/boatswainref10", 16⟩], ⟨"l", 105, 2, false, "", "boatswain/boatswainref10", 16⟩, (Go.TypeDesc.slice 133), by kernel_rfl, rfl, rfl, by kernel_rfl, rfl, by kernel_rfl⟩
instance : TF Try.prog 106 #[(0, 1), (1, 1), (2, 1)] := ⟨#[⟨"n", 3, 0, false, "", "boatswain/boatswainref10", 0⟩, ⟨"most", 3, 1, false, "", "boatswain/boatswainref10", 8⟩, ⟨"l", 105, 2, false, "", "boatswain/boatswainref10", 16⟩], by kernel_rfl, fun w => by kernel_rfl⟩
instance : TI Try.prog 107 (Go.TypeDesc.struct #[⟨"n", 3, 0, false, "", "boatswain/boatswainref10", 0⟩, ⟨"most", 3, 1, false, "", "boatswain/boatswainref10", 8⟩, ⟨"l", 105, 2, false, "", "boatswain/boatswainref10", 16⟩]) 3 := ⟨by kernel_rfl, by kernel_rfl⟩
instance : TZ Try.prog 107 (Go.Value.agg #[(Go.Value.int Go.IntKind.i64 0), (Go.Value.int Go.IntKind.i64 0), (Go.Value.slice none 0 0)]) := ⟨by kernel_rfl⟩
instance : TB Try.prog 107 40 := ⟨by kernel_rfl⟩
instance : FD Try.prog 107 0 0 false 1 := ⟨#[⟨"n", 3, 0, false, "", "boatswain/boatswainref10", 0⟩, ⟨"most", 3, 1, false, "", "boatswain/boatswainref10", 8⟩, ⟨"l", 105, 2, false, "", "boatswain/boatswainref10", 16⟩], ⟨"n", 3, 0, false, "", "boatswain/boatswainref10", 0⟩, (Go.TypeDesc.int Go.IntKind.i64), by kernel_rfl, rfl, rfl, by kernel_rfl, rfl, by kernel_rfl⟩
instance : FD Try.prog 107 1 1 false 1 := ⟨#[⟨"n", 3, 0, false, "", "boatswain/boatswainref10", 0⟩, ⟨"most", 3, 1, false, "", "boatswain/boatswainref10", 8⟩, ⟨"l", 105, 2, false, "", "boatswain/boatswainref10", 16⟩], ⟨"most", 3, 1, false, "", "boatswain/boatswainref10", 8⟩, (Go.TypeDesc.int Go.IntKind.i64), by kernel_rfl, rfl, rfl, by kernel_rfl, rfl, by kernel_rfl⟩
instance : FD Try.prog 107 2 2 false 1 := ⟨#[⟨"n", 3, 0, false, "", "boatswain/boatswainref10", 0⟩, ⟨"most", 3, 1, false, "", "boatswain/boatswainref10", 8⟩, ⟨"l", 105, 2, false, "", "boatswain/boatswainref10", 16⟩], ⟨"l", 105, 2, false, "", "boatswain/boatswainref10", 16⟩, (Go.TypeDesc.slice 133), by kernel_rfl, rfl, rfl, by kernel_rfl, rfl, by kernel_rfl⟩
instance : TF Try.prog 107 #[(0, 1), (1, 1), (2, 1)] := ⟨#[⟨"n", 3, 0, false, "", "boatswain/boatswainref10", 0⟩, ⟨"most", 3, 1, false, "", "boatswain/boatswainref10", 8⟩, ⟨"l", 105, 2, false, "", "boatswain/boatswainref10", 16⟩], by kernel_rfl, fun w => by kernel_rfl⟩
instance : TI Try.prog 108 (Go.TypeDesc.func #[5] #[53] false) 1 := ⟨by kernel_rfl, by kernel_rfl⟩
instance : TZ Try.prog 108 Go.Value.nilFunc := ⟨by kernel_rfl⟩
instance : TB Try.prog 108 8 := ⟨by kernel_rfl⟩
instance : TI Try.prog 109 (Go.TypeDesc.tuple #[31, 4]) 1 := ⟨by kernel_rfl, by kernel_rfl⟩
instance : TZ Try.prog 109 (Go.Value.tuple #[(Go.Value.agg #[(Go.Value.bool false), (Go.Value.int Go.IntKind.u64 0), (Go.Value.int Go.IntKind.u8 0)]), (Go.Value.bool false)]) := ⟨by kernel_rfl⟩
instance : TB Try.prog 109 0 := ⟨by kernel_rfl⟩
instance : TI Try.prog 110 (Go.TypeDesc.func #[3] #[31, 4] false) 1 := ⟨by kernel_rfl, by kernel_rfl⟩
instance : TZ Try.prog 110 Go.Value.nilFunc := ⟨by kernel_rfl⟩
instance : TB Try.prog 110 8 := ⟨by kernel_rfl⟩
instance : TI Try.prog 111 (Go.TypeDesc.func #[3] #[] false) 1 := ⟨by kernel_rfl, by kernel_rfl⟩
instance : TZ Try.prog 111 Go.Value.nilFunc := ⟨by kernel_rfl⟩
instance : TB Try.prog 111 8 := ⟨by kernel_rfl⟩
instance : TI Try.prog 112 (Go.TypeDesc.func #[] #[90] false) 1 := ⟨by kernel_rfl, by kernel_rfl⟩
instance : TZ Try.prog 112 Go.Value.nilFunc := ⟨by kernel_rfl⟩
instance : TB Try.prog 112 8 := ⟨by kernel_rfl⟩
instance : TI Try.prog 113 (Go.TypeDesc.func #[] #[92] false) 1 := ⟨by kernel_rfl, by kernel_rfl⟩
instance : TZ Try.prog 113 Go.Value.nilFunc := ⟨by kernel_rfl⟩
instance : TB Try.prog 113 8 := ⟨by kernel_rfl⟩
instance : TI Try.prog 114 (Go.TypeDesc.slice 139) 1 := ⟨by kernel_rfl, by kernel_rfl⟩
instance : TZ Try.prog 114 (Go.Value.slice none 0 0) := ⟨by kernel_rfl⟩
instance : TB Try.prog 114 24 := ⟨by kernel_rfl⟩
instance : TI Try.prog 115 (Go.TypeDesc.array 256 3) 256 := ⟨by kernel_rfl, by kernel_rfl⟩
instance : TZ Try.prog 115 (Go.Value.agg (zrun [(256, (Go.Value.int Go.IntKind.i64 0))])) := ⟨by kernel_rfl⟩
instance : TB Try.prog 115 2048 := ⟨by kernel_rfl⟩
instance : TI Try.prog 116 (Go.TypeDesc.array 4 29) 4 := ⟨by kernel_rfl, by kernel_rfl⟩
instance : TZ Try.prog 116 (Go.Value.agg #[(Go.Value.int Go.IntKind.u64 0), (Go.Value.int Go.IntKind.u64 0), (Go.Value.int Go.IntKind.u64 0), (Go.Value.int Go.IntKind.u64 0)]) := ⟨by kernel_rfl⟩
instance : TB Try.prog 116 32 := ⟨by kernel_rfl⟩
instance : TI Try.prog 117 (Go.TypeDesc.struct #[⟨"links", 114, 0, false, "", "boatswain/bitq", 0⟩, ⟨"first", 115, 1, false, "", "boatswain/bitq", 24⟩, ⟨"last", 115, 257, false, "", "boatswain/bitq", 2072⟩, ⟨"mask", 116, 513, false, "", "boatswain/bitq", 4120⟩, ⟨"many", 3, 517, false, "", "boatswain/bitq", 4152⟩]) 518 := ⟨by kernel_rfl, by kernel_rfl⟩
instance : TZ Try.prog 117 (Go.Value.agg (zrun [(1, (Go.Value.slice none 0 0)), (512, (Go.Value.int Go.IntKind.i64 0)), (4, (Go.Value.int Go.IntKind.u64 0)), (1, (Go.Value.int Go.IntKind.i64 0))])) := ⟨by kernel_rfl⟩
instance : TB Try.prog 117 4160 := ⟨by kernel_rfl⟩
instance : FD Try.prog 117 0 0 false 1 := ⟨#[⟨"links", 114, 0, false, "", "boatswain/bitq", 0⟩, ⟨"first", 115, 1, false, "", "boatswain/bitq", 24⟩, ⟨"last", 115, 257, false, "", "boatswain/bitq", 2072⟩, ⟨"mask", 116, 513, false, "", "boatswain/bitq", 4120⟩, ⟨"many", 3, 517, false, "", "boatswain/bitq", 4152⟩], ⟨"links", 114, 0, false, "", "boatswain/bitq", 0⟩, (Go.TypeDesc.slice 139), by kernel_rfl, rfl, rfl, by kernel_rfl, rfl, by kernel_rfl⟩
instance : FD Try.prog 117 1 1 true 256 := ⟨#[⟨"links", 114, 0, false, "", "boatswain/bitq", 0⟩, ⟨"first", 115, 1, false, "", "boatswain/bitq", 24⟩, ⟨"last", 115, 257, false, "", "boatswain/bitq", 2072⟩, ⟨"mask", 116, 513, false, "", "boatswain/bitq", 4120⟩, ⟨"many", 3, 517, false, "", "boatswain/bitq", 4152⟩], ⟨"first", 115, 1, false, "", "boatswain/bitq", 24⟩, (Go.TypeDesc.array 256 3), by kernel_rfl, rfl, rfl, by kernel_rfl, rfl, by kernel_rfl⟩
instance : FD Try.prog 117 2 257 true 256 := ⟨#[⟨"links", 114, 0, false, "", "boatswain/bitq", 0⟩, ⟨"first", 115, 1, false, "", "boatswain/bitq", 24⟩, ⟨"last", 115, 257, false, "", "boatswain/bitq", 2072⟩, ⟨"mask", 116, 513, false, "", "boatswain/bitq", 4120⟩, ⟨"many", 3, 517, false, "", "boatswain/bitq", 4152⟩], ⟨"last", 115, 257, false, "", "boatswain/bitq", 2072⟩, (Go.TypeDesc.array 256 3), by kernel_rfl, rfl, rfl, by kernel_rfl, rfl, by kernel_rfl⟩
instance : FD Try.prog 117 3 513 true 4 := ⟨#[⟨"links", 114, 0, false, "", "boatswain/bitq", 0⟩, ⟨"first", 115, 1, false, "", "boatswain/bitq", 24⟩, ⟨"last", 115, 257, false, "", "boatswain/bitq", 2072⟩, ⟨"mask", 116, 513, false, "", "boatswain/bitq", 4120⟩, ⟨"many", 3, 517, false, "", "boatswain/bitq", 4152⟩], ⟨"mask", 116, 513, false, "", "boatswain/bitq", 4120⟩, (Go.TypeDesc.array 4 29), by kernel_rfl, rfl, rfl, by kernel_rfl, rfl, by kernel_rfl⟩
instance : FD Try.prog 117 4 517 false 1 := ⟨#[⟨"links", 114, 0, false, "", "boatswain/bitq", 0⟩, ⟨"first", 115, 1, false, "", "boatswain/bitq", 24⟩, ⟨"last", 115, 257, false, "", "boatswain/bitq", 2072⟩, ⟨"mask", 116, 513, false, "", "boatswain/bitq", 4120⟩, ⟨"many", 3, 517, false, "", "boatswain/bitq", 4152⟩], ⟨"many", 3, 517, false, "", "boatswain/bitq", 4152⟩, (Go.TypeDesc.int Go.IntKind.i64), by kernel_rfl, rfl, rfl, by kernel_rfl, rfl, by kernel_rfl⟩
instance : TF Try.prog 117 #[(0, 1), (1, 256), (257, 256), (513, 4), (517, 1)] := ⟨#[⟨"links", 114, 0, false, "", "boatswain/bitq", 0⟩, ⟨"first", 115, 1, false, "", "boatswain/bitq", 24⟩, ⟨"last", 115, 257, false, "", "boatswain/bitq", 2072⟩, ⟨"mask", 116, 513, false, "", "boatswain/bitq", 4120⟩, ⟨"many", 3, 517, false, "", "boatswain/bitq", 4152⟩], by kernel_rfl, fun w => by kernel_rfl⟩
instance : TI Try.prog 118 (Go.TypeDesc.struct #[⟨"links", 114, 0, false, "", "boatswain/bitq", 0⟩, ⟨"first", 115, 1, false, "", "boatswain/bitq", 24⟩, ⟨"last", 115, 257, false, "", "boatswain/bitq", 2072⟩, ⟨"mask", 116, 513, false, "", "boatswain/bitq", 4120⟩, ⟨"many", 3, 517, false, "", "boatswain/bitq", 4152⟩]) 518 := ⟨by kernel_rfl, by kernel_rfl⟩
instance : TZ Try.prog 118 (Go.Value.agg (zrun [(1, (Go.Value.slice none 0 0)), (512, (Go.Value.int Go.IntKind.i64 0)), (4, (Go.Value.int Go.IntKind.u64 0)), (1, (Go.Value.int Go.IntKind.i64 0))])) := ⟨by kernel_rfl⟩
instance : TB Try.prog 118 4160 := ⟨by kernel_rfl⟩
instance : FD Try.prog 118 0 0 false 1 := ⟨#[⟨"links", 114, 0, false, "", "boatswain/bitq", 0⟩, ⟨"first", 115, 1, false, "", "boatswain/bitq", 24⟩, ⟨"last", 115, 257, false, "", "boatswain/bitq", 2072⟩, ⟨"mask", 116, 513, false, "", "boatswain/bitq", 4120⟩, ⟨"many", 3, 517, false, "", "boatswain/bitq", 4152⟩], ⟨"links", 114, 0, false, "", "boatswain/bitq", 0⟩, (Go.TypeDesc.slice 139), by kernel_rfl, rfl, rfl, by kernel_rfl, rfl, by kernel_rfl⟩
instance : FD Try.prog 118 1 1 true 256 := ⟨#[⟨"links", 114, 0, false, "", "boatswain/bitq", 0⟩, ⟨"first", 115, 1, false, "", "boatswain/bitq", 24⟩, ⟨"last", 115, 257, false, "", "boatswain/bitq", 2072⟩, ⟨"mask", 116, 513, false, "", "boatswain/bitq", 4120⟩, ⟨"many", 3, 517, false, "", "boatswain/bitq", 4152⟩], ⟨"first", 115, 1, false, "", "boatswain/bitq", 24⟩, (Go.TypeDesc.array 256 3), by kernel_rfl, rfl, rfl, by kernel_rfl, rfl, by kernel_rfl⟩
instance : FD Try.prog 118 2 257 true 256 := ⟨#[⟨"links", 114, 0, false, "", "boatswain/bitq", 0⟩, ⟨"first", 115, 1, false, "", "boatswain/bitq", 24⟩, ⟨"last", 115, 257, false, "", "boatswain/bitq", 2072⟩, ⟨"mask", 116, 513, false, "", "boatswain/bitq", 4120⟩, ⟨"many", 3, 517, false, "", "boatswain/bitq", 4152⟩], ⟨"last", 115, 257, false, "", "boatswain/bitq", 2072⟩, (Go.TypeDesc.array 256 3), by kernel_rfl, rfl, rfl, by kernel_rfl, rfl, by kernel_rfl⟩
instance : FD Try.prog 118 3 513 true 4 := ⟨#[⟨"links", 114, 0, false, "", "boatswain/bitq", 0⟩, ⟨"first", 115, 1, false, "", "boatswain/bitq", 24⟩, ⟨"last", 115, 257, false, "", "boatswain/bitq", 2072⟩, ⟨"mask", 116, 513, false, "", "boatswain/bitq", 4120⟩, ⟨"many", 3, 517, false, "", "boatswain/bitq", 4152⟩], ⟨"mask", 116, 513, false, "", "boatswain/bitq", 4120⟩, (Go.TypeDesc.array 4 29), by kernel_rfl, rfl, rfl, by kernel_rfl, rfl, by kernel_rfl⟩
instance : FD Try.prog 118 4 517 false 1 := ⟨#[⟨"links", 114, 0, false, "", "boatswain/bitq", 0⟩, ⟨"first", 115, 1, false, "", "boatswain/bitq", 24⟩, ⟨"last", 115, 257, false, "", "boatswain/bitq", 2072⟩, ⟨"mask", 116, 513, false, "", "boatswain/bitq", 4120⟩, ⟨"many", 3, 517, false, "", "boatswain/bitq", 4152⟩], ⟨"many", 3, 517, false, "", "boatswain/bitq", 4152⟩, (Go.TypeDesc.int Go.IntKind.i64), by kernel_rfl, rfl, rfl, by kernel_rfl, rfl, by kernel_rfl⟩
instance : TF Try.prog 118 #[(0, 1), (1, 256), (257, 256), (513, 4), (517, 1)] := ⟨#[⟨"links", 114, 0, false, "", "boatswain/bitq", 0⟩, ⟨"first", 115, 1, false, "", "boatswain/bitq", 24⟩, ⟨"last", 115, 257, false, "", "boatswain/bitq", 2072⟩, ⟨"mask", 116, 513, false, "", "boatswain/bitq", 4120⟩, ⟨"many", 3, 517, false, "", "boatswain/bitq", 4152⟩], by kernel_rfl, fun w => by kernel_rfl⟩
instance : TI Try.prog 119 (Go.TypeDesc.slice 128) 1 := ⟨by kernel_rfl, by kernel_rfl⟩
instance : TZ Try.prog 119 (Go.Value.slice none 0 0) := ⟨by kernel_rfl⟩
instance : TB Try.prog 119 24 := ⟨by kernel_rfl⟩
instance : TI Try.prog 120 (Go.TypeDesc.struct #[⟨"nodes", 119, 0, false, "", "boatswain/pheap", 0⟩, ⟨"root", 3, 1, false, "", "boatswain/pheap", 24⟩, ⟨"many", 3, 2, false, "", "boatswain/pheap", 32⟩]) 3 := ⟨by kernel_rfl, by kernel_rfl⟩
instance : TZ Try.prog 120 (Go.Value.agg #[(Go.Value.slice none 0 0), (Go.Value.int Go.IntKind.i64 0), (Go.Value.int Go.IntKind.i64 0)]) := ⟨by kernel_rfl⟩
instance : TB Try.prog 120 40 := ⟨by kernel_rfl⟩
instance : FD Try.prog 120 0 0 false 1 := ⟨#[⟨"nodes", 119, 0, false, "", "boatswain/pheap", 0⟩, ⟨"root", 3, 1, false, "", "boatswain/pheap", 24⟩, ⟨"many", 3, 2, false, "", "boatswain/pheap", 32⟩], ⟨"nodes", 119, 0, false, "", "boatswain/pheap", 0⟩, (Go.TypeDesc.slice 128), by kernel_rfl, rfl, rfl, by kernel_rfl, rfl, by kernel_rfl⟩
instance : FD Try.prog 120 1 1 false 1 := ⟨#[⟨"nodes", 119, 0, false, "", "boatswain/pheap", 0⟩, ⟨"root", 3, 1, false, "", "boatswain/pheap", 24⟩, ⟨"many", 3, 2, false, "", "boatswain/pheap", 32⟩], ⟨"root", 3, 1, false, "", "boatswain/pheap", 24⟩, (Go.TypeDesc.int Go.IntKind.i64), by kernel_rfl, rfl, rfl, by kernel_rfl, rfl, by kernel_rfl⟩
instance : FD Try.prog 120 2 2 false 1 := ⟨#[⟨"nodes", 119, 0, false, "", "boatswain/pheap", 0⟩, ⟨"root", 3, 1, false, "", "boatswain/pheap", 24⟩, ⟨"many", 3, 2, false, "", "boatswain/pheap", 32⟩], ⟨"many", 3, 2, false, "", "boatswain/pheap", 32⟩, (Go.TypeDesc.int Go.IntKind.i64), by kernel_rfl, rfl, rfl, by kernel_rfl, rfl, by kernel_rfl⟩
instance : TF Try.prog 120 #[(0, 1), (1, 1), (2, 1)] := ⟨#[⟨"nodes", 119, 0, false, "", "boatswain/pheap", 0⟩, ⟨"root", 3, 1, false, "", "boatswain/pheap", 24⟩, ⟨"many", 3, 2, false, "", "boatswain/pheap", 32⟩], by kernel_rfl, fun w => by kernel_rfl⟩
instance : TI Try.prog 121 (Go.TypeDesc.struct #[⟨"nodes", 119, 0, false, "", "boatswain/pheap", 0⟩, ⟨"root", 3, 1, false, "", "boatswain/pheap", 24⟩, ⟨"many", 3, 2, false, "", "boatswain/pheap", 32⟩]) 3 := ⟨by kernel_rfl, by kernel_rfl⟩
instance : TZ Try.prog 121 (Go.Value.agg #[(Go.Value.slice none 0 0), (Go.Value.int Go.IntKind.i64 0), (Go.Value.int Go.IntKind.i64 0)]) := ⟨by kernel_rfl⟩
instance : TB Try.prog 121 40 := ⟨by kernel_rfl⟩
instance : FD Try.prog 121 0 0 false 1 := ⟨#[⟨"nodes", 119, 0, false, "", "boatswain/pheap", 0⟩, ⟨"root", 3, 1, false, "", "boatswain/pheap", 24⟩, ⟨"many", 3, 2, false, "", "boatswain/pheap", 32⟩], ⟨"nodes", 119, 0, false, "", "boatswain/pheap", 0⟩, (Go.TypeDesc.slice 128), by kernel_rfl, rfl, rfl, by kernel_rfl, rfl, by kernel_rfl⟩
instance : FD Try.prog 121 1 1 false 1 := ⟨#[⟨"nodes", 119, 0, false, "", "boatswain/pheap", 0⟩, ⟨"root", 3, 1, false, "", "boatswain/pheap", 24⟩, ⟨"many", 3, 2, false, "", "boatswain/pheap", 32⟩], ⟨"root", 3, 1, false, "", "boatswain/pheap", 24⟩, (Go.TypeDesc.int Go.IntKind.i64), by kernel_rfl, rfl, rfl, by kernel_rfl, rfl, by kernel_rfl⟩
instance : FD Try.prog 121 2 2 false 1 := ⟨#[⟨"nodes", 119, 0, false, "", "boatswain/pheap", 0⟩, ⟨"root", 3, 1, false, "", "boatswain/pheap", 24⟩, ⟨"many", 3, 2, false, "", "boatswain/pheap", 32⟩], ⟨"many", 3, 2, false, "", "boatswain/pheap", 32⟩, (Go.TypeDesc.int Go.IntKind.i64), by kernel_rfl, rfl, rfl, by kernel_rfl, rfl, by kernel_rfl⟩
instance : TF Try.prog 121 #[(0, 1), (1, 1), (2, 1)] := ⟨#[⟨"nodes", 119, 0, false, "", "boatswain/pheap", 0⟩, ⟨"root", 3, 1, false, "", "boatswain/pheap", 24⟩, ⟨"many", 3, 2, false, "", "boatswain/pheap", 32⟩], by kernel_rfl, fun w => by kernel_rfl⟩
instance : TI Try.prog 122 (Go.TypeDesc.func #[3, 29, 29] #[26] false) 1 := ⟨by kernel_rfl, by kernel_rfl⟩
instance : TZ Try.prog 122 Go.Value.nilFunc := ⟨by kernel_rfl⟩
instance : TB Try.prog 122 8 := ⟨by kernel_rfl⟩
instance : TI Try.prog 123 (Go.TypeDesc.func #[5, 3] #[26] false) 1 := ⟨by kernel_rfl, by kernel_rfl⟩
instance : TZ Try.prog 123 Go.Value.nilFunc := ⟨by kernel_rfl⟩
instance : TB Try.prog 123 8 := ⟨by kernel_rfl⟩
instance : TI Try.prog 124 (Go.TypeDesc.func #[3, 4] #[26] false) 1 := ⟨by kernel_rfl, by kernel_rfl⟩
instance : TZ Try.prog 124 Go.Value.nilFunc := ⟨by kernel_rfl⟩
instance : TB Try.prog 124 8 := ⟨by kernel_rfl⟩
instance : TI Try.prog 125 (Go.TypeDesc.struct #[⟨"deadline", 29, 0, false, "", "boatswain/pheap", 0⟩, ⟨"seq", 29, 1, false, "", "boatswain/pheap", 8⟩]) 2 := ⟨by kernel_rfl, by kernel_rfl⟩
instance : TZ Try.prog 125 (Go.Value.agg #[(Go.Value.int Go.IntKind.u64 0), (Go.Value.int Go.IntKind.u64 0)]) := ⟨by kernel_rfl⟩
instance : TB Try.prog 125 16 := ⟨by kernel_rfl⟩
instance : FD Try.prog 125 0 0 false 1 := ⟨#[⟨"deadline", 29, 0, false, "", "boatswain/pheap", 0⟩, ⟨"seq", 29, 1, false, "", "boatswain/pheap", 8⟩], ⟨"deadline", 29, 0, false, "", "boatswain/pheap", 0⟩, (Go.TypeDesc.int Go.IntKind.u64), by kernel_rfl, rfl, rfl, by kernel_rfl, rfl, by kernel_rfl⟩
instance : FD Try.prog 125 1 1 false 1 := ⟨#[⟨"deadline", 29, 0, false, "", "boatswain/pheap", 0⟩, ⟨"seq", 29, 1, false, "", "boatswain/pheap", 8⟩], ⟨"seq", 29, 1, false, "", "boatswain/pheap", 8⟩, (Go.TypeDesc.int Go.IntKind.u64), by kernel_rfl, rfl, rfl, by kernel_rfl, rfl, by kernel_rfl⟩
instance : TF Try.prog 125 #[(0, 1), (1, 1)] := ⟨#[⟨"deadline", 29, 0, false, "", "boatswain/pheap", 0⟩, ⟨"seq", 29, 1, false, "", "boatswain/pheap", 8⟩], by kernel_rfl, fun w => by kernel_rfl⟩
instance : TI Try.prog 126 (Go.TypeDesc.struct #[⟨"deadline", 29, 0, false, "", "boatswain/pheap", 0⟩, ⟨"seq", 29, 1, false, "", "boatswain/pheap", 8⟩]) 2 := ⟨by kernel_rfl, by kernel_rfl⟩
instance : TZ Try.prog 126 (Go.Value.agg #[(Go.Value.int Go.IntKind.u64 0), (Go.Value.int Go.IntKind.u64 0)]) := ⟨by kernel_rfl⟩
instance : TB Try.prog 126 16 := ⟨by kernel_rfl⟩
instance : FD Try.prog 126 0 0 false 1 := ⟨#[⟨"deadline", 29, 0, false, "", "boatswain/pheap", 0⟩, ⟨"seq", 29, 1, false, "", "boatswain/pheap", 8⟩], ⟨"deadline", 29, 0, false, "", "boatswain/pheap", 0⟩, (Go.TypeDesc.int Go.IntKind.u64), by kernel_rfl, rfl, rfl, by kernel_rfl, rfl, by kernel_rfl⟩
instance : FD Try.prog 126 1 1 false 1 := ⟨#[⟨"deadline", 29, 0, false, "", "boatswain/pheap", 0⟩, ⟨"seq", 29, 1, false, "", "boatswain/pheap", 8⟩], ⟨"seq", 29, 1, false, "", "boatswain/pheap", 8⟩, (Go.TypeDesc.int Go.IntKind.u64), by kernel_rfl, rfl, rfl, by kernel_rfl, rfl, by kernel_rfl⟩
instance : TF Try.prog 126 #[(0, 1), (1, 1)] := ⟨#[⟨"deadline", 29, 0, false, "", "boatswain/pheap", 0⟩, ⟨"seq", 29, 1, false, "", "boatswain/pheap", 8⟩], by kernel_rfl, fun w => by kernel_rfl⟩
instance : TI Try.prog 127 (Go.TypeDesc.struct #[⟨"rank", 126, 0, true, "", "boatswain/pheap", 0⟩, ⟨"child", 3, 2, false, "", "boatswain/pheap", 16⟩, ⟨"next", 3, 3, false, "", "boatswain/pheap", 24⟩, ⟨"prev", 3, 4, false, "", "boatswain/pheap", 32⟩, ⟨"there", 4, 5, false, "", "boatswain/pheap", 40⟩]) 6 := ⟨by kernel_rfl, by kernel_rfl⟩
instance : TZ Try.prog 127 (Go.Value.agg #[(Go.Value.int Go.IntKind.u64 0), (Go.Value.int Go.IntKind.u64 0), (Go.Value.int Go.IntKind.i64 0), (Go.Value.int Go.IntKind.i64 0), (Go.Value.int Go.IntKind.i64 0), (Go.Value.bool false)]) := ⟨by kernel_rfl⟩
instance : TB Try.prog 127 48 := ⟨by kernel_rfl⟩
instance : FD Try.prog 127 0 0 true 2 := ⟨#[⟨"rank", 126, 0, true, "", "boatswain/pheap", 0⟩, ⟨"child", 3, 2, false, "", "boatswain/pheap", 16⟩, ⟨"next", 3, 3, false, "", "boatswain/pheap", 24⟩, ⟨"prev", 3, 4, false, "", "boatswain/pheap", 32⟩, ⟨"there", 4, 5, false, "", "boatswain/pheap", 40⟩], ⟨"rank", 126, 0, true, "", "boatswain/pheap", 0⟩, (Go.TypeDesc.struct #[⟨"deadline", 29, 0, false, "", "boatswain/pheap", 0⟩, ⟨"seq", 29, 1, false, "", "boatswain/pheap", 8⟩]), by kernel_rfl, rfl, rfl, by kernel_rfl, rfl, by kernel_rfl⟩
instance : FD Try.prog 127 1 2 false 1 := ⟨#[⟨"rank", 126, 0, true, "", "boatswain/pheap", 0⟩, ⟨"child", 3, 2, false, "", "boatswain/pheap", 16⟩, ⟨"next", 3, 3, false, "", "boatswain/pheap", 24⟩, ⟨"prev", 3, 4, false, "", "boatswain/pheap", 32⟩, ⟨"there", 4, 5, false, "", "boatswain/pheap", 40⟩], ⟨"child", 3, 2, false, "", "boatswain/pheap", 16⟩, (Go.TypeDesc.int Go.IntKind.i64), by kernel_rfl, rfl, rfl, by kernel_rfl, rfl, by kernel_rfl⟩
instance : FD Try.prog 127 2 3 false 1 := ⟨#[⟨"rank", 126, 0, true, "", "boatswain/pheap", 0⟩, ⟨"child", 3, 2, false, "", "boatswain/pheap", 16⟩, ⟨"next", 3, 3, false, "", "boatswain/pheap", 24⟩, ⟨"prev", 3, 4, false, "", "boatswain/pheap", 32⟩, ⟨"there", 4, 5, false, "", "boatswain/pheap", 40⟩], ⟨"next", 3, 3, false, "", "boatswain/pheap", 24⟩, (Go.TypeDesc.int Go.IntKind.i64), by kernel_rfl, rfl, rfl, by kernel_rfl, rfl, by kernel_rfl⟩
instance : FD Try.prog 127 3 4 false 1 := ⟨#[⟨"rank", 126, 0, true, "", "boatswain/pheap", 0⟩, ⟨"child", 3, 2, false, "", "boatswain/pheap", 16⟩, ⟨"next", 3, 3, false, "", "boatswain/pheap", 24⟩, ⟨"prev", 3, 4, false, "", "boatswain/pheap", 32⟩, ⟨"there", 4, 5, false, "", "boatswain/pheap", 40⟩], ⟨"prev", 3, 4, false, "", "boatswain/pheap", 32⟩, (Go.TypeDesc.int Go.IntKind.i64), by kernel_rfl, rfl, rfl, by kernel_rfl, rfl, by kernel_rfl⟩
instance : FD Try.prog 127 4 5 false 1 := ⟨#[⟨"rank", 126, 0, true, "", "boatswain/pheap", 0⟩, ⟨"child", 3, 2, false, "", "boatswain/pheap", 16⟩, ⟨"next", 3, 3, false, "", "boatswain/pheap", 24⟩, ⟨"prev", 3, 4, false, "", "boatswain/pheap", 32⟩, ⟨"there", 4, 5, false, "", "boatswain/pheap", 40⟩], ⟨"there", 4, 5, false, "", "boatswain/pheap", 40⟩, Go.TypeDesc.bool, by kernel_rfl, rfl, rfl, by kernel_rfl, rfl, by kernel_rfl⟩
instance : TF Try.prog 127 #[(0, 2), (2, 1), (3, 1), (4, 1), (5, 1)] := ⟨#[⟨"rank", 126, 0, true, "", "boatswain/pheap", 0⟩, ⟨"child", 3, 2, false, "", "boatswain/pheap", 16⟩, ⟨"next", 3, 3, false, "", "boatswain/pheap", 24⟩, ⟨"prev", 3, 4, false, "", "boatswain/pheap", 32⟩, ⟨"there", 4, 5, false, "", "boatswain/pheap", 40⟩], by kernel_rfl, fun w => by kernel_rfl⟩
instance : TI Try.prog 128 (Go.TypeDesc.struct #[⟨"rank", 126, 0, true, "", "boatswain/pheap", 0⟩, ⟨"child", 3, 2, false, "", "boatswain/pheap", 16⟩, ⟨"next", 3, 3, false, "", "boatswain/pheap", 24⟩, ⟨"prev", 3, 4, false, "", "boatswain/pheap", 32⟩, ⟨"there", 4, 5, false, "", "boatswain/pheap", 40⟩]) 6 := ⟨by kernel_rfl, by kernel_rfl⟩
instance : TZ Try.prog 128 (Go.Value.agg #[(Go.Value.int Go.IntKind.u64 0), (Go.Value.int Go.IntKind.u64 0), (Go.Value.int Go.IntKind.i64 0), (Go.Value.int Go.IntKind.i64 0), (Go.Value.int Go.IntKind.i64 0), (Go.Value.bool false)]) := ⟨by kernel_rfl⟩
instance : TB Try.prog 128 48 := ⟨by kernel_rfl⟩
instance : FD Try.prog 128 0 0 true 2 := ⟨#[⟨"rank", 126, 0, true, "", "boatswain/pheap", 0⟩, ⟨"child", 3, 2, false, "", "boatswain/pheap", 16⟩, ⟨"next", 3, 3, false, "", "boatswain/pheap", 24⟩, ⟨"prev", 3, 4, false, "", "boatswain/pheap", 32⟩, ⟨"there", 4, 5, false, "", "boatswain/pheap", 40⟩], ⟨"rank", 126, 0, true, "", "boatswain/pheap", 0⟩, (Go.TypeDesc.struct #[⟨"deadline", 29, 0, false, "", "boatswain/pheap", 0⟩, ⟨"seq", 29, 1, false, "", "boatswain/pheap", 8⟩]), by kernel_rfl, rfl, rfl, by kernel_rfl, rfl, by kernel_rfl⟩
instance : FD Try.prog 128 1 2 false 1 := ⟨#[⟨"rank", 126, 0, true, "", "boatswain/pheap", 0⟩, ⟨"child", 3, 2, false, "", "boatswain/pheap", 16⟩, ⟨"next", 3, 3, false, "", "boatswain/pheap", 24⟩, ⟨"prev", 3, 4, false, "", "boatswain/pheap", 32⟩, ⟨"there", 4, 5, false, "", "boatswain/pheap", 40⟩], ⟨"child", 3, 2, false, "", "boatswain/pheap", 16⟩, (Go.TypeDesc.int Go.IntKind.i64), by kernel_rfl, rfl, rfl, by kernel_rfl, rfl, by kernel_rfl⟩
instance : FD Try.prog 128 2 3 false 1 := ⟨#[⟨"rank", 126, 0, true, "", "boatswain/pheap", 0⟩, ⟨"child", 3, 2, false, "", "boatswain/pheap", 16⟩, ⟨"next", 3, 3, false, "", "boatswain/pheap", 24⟩, ⟨"prev", 3, 4, false, "", "boatswain/pheap", 32⟩, ⟨"there", 4, 5, false, "", "boatswain/pheap", 40⟩], ⟨"next", 3, 3, false, "", "boatswain/pheap", 24⟩, (Go.TypeDesc.int Go.IntKind.i64), by kernel_rfl, rfl, rfl, by kernel_rfl, rfl, by kernel_rfl⟩
instance : FD Try.prog 128 3 4 false 1 := ⟨#[⟨"rank", 126, 0, true, "", "boatswain/pheap", 0⟩, ⟨"child", 3, 2, false, "", "boatswain/pheap", 16⟩, ⟨"next", 3, 3, false, "", "boatswain/pheap", 24⟩, ⟨"prev", 3, 4, false, "", "boatswain/pheap", 32⟩, ⟨"there", 4, 5, false, "", "boatswain/pheap", 40⟩], ⟨"prev", 3, 4, false, "", "boatswain/pheap", 32⟩, (Go.TypeDesc.int Go.IntKind.i64), by kernel_rfl, rfl, rfl, by kernel_rfl, rfl, by kernel_rfl⟩
instance : FD Try.prog 128 4 5 false 1 := ⟨#[⟨"rank", 126, 0, true, "", "boatswain/pheap", 0⟩, ⟨"child", 3, 2, false, "", "boatswain/pheap", 16⟩, ⟨"next", 3, 3, false, "", "boatswain/pheap", 24⟩, ⟨"prev", 3, 4, false, "", "boatswain/pheap", 32⟩, ⟨"there", 4, 5, false, "", "boatswain/pheap", 40⟩], ⟨"there", 4, 5, false, "", "boatswain/pheap", 40⟩, Go.TypeDesc.bool, by kernel_rfl, rfl, rfl, by kernel_rfl, rfl, by kernel_rfl⟩
instance : TF Try.prog 128 #[(0, 2), (2, 1), (3, 1), (4, 1), (5, 1)] := ⟨#[⟨"rank", 126, 0, true, "", "boatswain/pheap", 0⟩, ⟨"child", 3, 2, false, "", "boatswain/pheap", 16⟩, ⟨"next", 3, 3, false, "", "boatswain/pheap", 24⟩, ⟨"prev", 3, 4, false, "", "boatswain/pheap", 32⟩, ⟨"there", 4, 5, false, "", "boatswain/pheap", 40⟩], by kernel_rfl, fun w => by kernel_rfl⟩
instance : TI Try.prog 129 (Go.TypeDesc.func #[116] #[3] false) 1 := ⟨by kernel_rfl, by kernel_rfl⟩
instance : TZ Try.prog 129 Go.Value.nilFunc := ⟨by kernel_rfl⟩
instance : TB Try.prog 129 8 := ⟨by kernel_rfl⟩
instance : TI Try.prog 130 (Go.TypeDesc.func #[] #[116] false) 1 := ⟨by kernel_rfl, by kernel_rfl⟩
instance : TZ Try.prog 130 Go.Value.nilFunc := ⟨by kernel_rfl⟩
instance : TB Try.prog 130 8 := ⟨by kernel_rfl⟩
instance : TI Try.prog 131 (Go.TypeDesc.func #[5] #[76] false) 1 := ⟨by kernel_rfl, by kernel_rfl⟩
instance : TZ Try.prog 131 Go.Value.nilFunc := ⟨by kernel_rfl⟩
instance : TB Try.prog 131 8 := ⟨by kernel_rfl⟩
instance : TI Try.prog 132 (Go.TypeDesc.struct #[⟨"id", 3, 0, false, "", "boatswain/boatswainref10", 0⟩, ⟨"k", 31, 1, false, "", "boatswain/boatswainref10", 8⟩]) 4 := ⟨by kernel_rfl, by kernel_rfl⟩
instance : TZ Try.prog 132 (Go.Value.agg #[(Go.Value.int Go.IntKind.i64 0), (Go.Value.bool false), (Go.Value.int Go.IntKind.u64 0), (Go.Value.int Go.IntKind.u8 0)]) := ⟨by kernel_rfl⟩
instance : TB Try.prog 132 32 := ⟨by kernel_rfl⟩
instance : FD Try.prog 132 0 0 false 1 := ⟨#[⟨"id", 3, 0, false, "", "boatswain/boatswainref10", 0⟩, ⟨"k", 31, 1, false, "", "boatswain/boatswainref10", 8⟩], ⟨"id", 3, 0, false, "", "boatswain/boatswainref10", 0⟩, (Go.TypeDesc.int Go.IntKind.i64), by kernel_rfl, rfl, rfl, by kernel_rfl, rfl, by kernel_rfl⟩
instance : FD Try.prog 132 1 1 true 3 := ⟨#[⟨"id", 3, 0, false, "", "boatswain/boatswainref10", 0⟩, ⟨"k", 31, 1, false, "", "boatswain/boatswainref10", 8⟩], ⟨"k", 31, 1, false, "", "boatswain/boatswainref10", 8⟩, (Go.TypeDesc.struct #[⟨"Edf", 4, 0, false, "", "", 0⟩, ⟨"Deadline", 29, 1, false, "", "", 8⟩, ⟨"Level", 5, 2, false, "", "", 16⟩]), by kernel_rfl, rfl, rfl, by kernel_rfl, rfl, by kernel_rfl⟩
instance : TF Try.prog 132 #[(0, 1), (1, 3)] := ⟨#[⟨"id", 3, 0, false, "", "boatswain/boatswainref10", 0⟩, ⟨"k", 31, 1, false, "", "boatswain/boatswainref10", 8⟩], by kernel_rfl, fun w => by kernel_rfl⟩
instance : TI Try.prog 133 (Go.TypeDesc.struct #[⟨"id", 3, 0, false, "", "boatswain/boatswainref10", 0⟩, ⟨"k", 31, 1, false, "", "boatswain/boatswainref10", 8⟩]) 4 := ⟨by kernel_rfl, by kernel_rfl⟩
instance : TZ Try.prog 133 (Go.Value.agg #[(Go.Value.int Go.IntKind.i64 0), (Go.Value.bool false), (Go.Value.int Go.IntKind.u64 0), (Go.Value.int Go.IntKind.u8 0)]) := ⟨by kernel_rfl⟩
instance : TB Try.prog 133 32 := ⟨by kernel_rfl⟩
instance : FD Try.prog 133 0 0 false 1 := ⟨#[⟨"id", 3, 0, false, "", "boatswain/boatswainref10", 0⟩, ⟨"k", 31, 1, false, "", "boatswain/boatswainref10", 8⟩], ⟨"id", 3, 0, false, "", "boatswain/boatswainref10", 0⟩, (Go.TypeDesc.int Go.IntKind.i64), by kernel_rfl, rfl, rfl, by kernel_rfl, rfl, by kernel_rfl⟩
instance : FD Try.prog 133 1 1 true 3 := ⟨#[⟨"id", 3, 0, false, "", "boatswain/boatswainref10", 0⟩, ⟨"k", 31, 1, false, "", "boatswain/boatswainref10", 8⟩], ⟨"k", 31, 1, false, "", "boatswain/boatswainref10", 8⟩, (Go.TypeDesc.struct #[⟨"Edf", 4, 0, false, "", "", 0⟩, ⟨"Deadline", 29, 1, false, "", "", 8⟩, ⟨"Level", 5, 2, false, "", "", 16⟩]), by kernel_rfl, rfl, rfl, by kernel_rfl, rfl, by kernel_rfl⟩
instance : TF Try.prog 133 #[(0, 1), (1, 3)] := ⟨#[⟨"id", 3, 0, false, "", "boatswain/boatswainref10", 0⟩, ⟨"k", 31, 1, false, "", "boatswain/boatswainref10", 8⟩], by kernel_rfl, fun w => by kernel_rfl⟩
instance : TI Try.prog 134 (Go.TypeDesc.func #[3] #[3] false) 1 := ⟨by kernel_rfl, by kernel_rfl⟩
instance : TZ Try.prog 134 Go.Value.nilFunc := ⟨by kernel_rfl⟩
instance : TB Try.prog 134 8 := ⟨by kernel_rfl⟩
instance : TI Try.prog 135 (Go.TypeDesc.tuple #[5, 4]) 1 := ⟨by kernel_rfl, by kernel_rfl⟩
instance : TZ Try.prog 135 (Go.Value.tuple #[(Go.Value.int Go.IntKind.u8 0), (Go.Value.bool false)]) := ⟨by kernel_rfl⟩
instance : TB Try.prog 135 0 := ⟨by kernel_rfl⟩
instance : TI Try.prog 136 (Go.TypeDesc.func #[3] #[5, 4] false) 1 := ⟨by kernel_rfl, by kernel_rfl⟩
instance : TZ Try.prog 136 Go.Value.nilFunc := ⟨by kernel_rfl⟩
instance : TB Try.prog 136 8 := ⟨by kernel_rfl⟩
instance : TI Try.prog 137 (Go.TypeDesc.func #[114] #[114] false) 1 := ⟨by kernel_rfl, by kernel_rfl⟩
instance : TZ Try.prog 137 Go.Value.nilFunc := ⟨by kernel_rfl⟩
instance : TB Try.prog 137 8 := ⟨by kernel_rfl⟩
instance : TI Try.prog 138 (Go.TypeDesc.struct #[⟨"ahead", 3, 0, false, "", "boatswain/bitq", 0⟩, ⟨"behind", 3, 1, false, "", "boatswain/bitq", 8⟩, ⟨"level", 5, 2, false, "", "boatswain/bitq", 16⟩, ⟨"there", 4, 3, false, "", "boatswain/bitq", 17⟩]) 4 := ⟨by kernel_rfl, by kernel_rfl⟩
instance : TZ Try.prog 138 (Go.Value.agg #[(Go.Value.int Go.IntKind.i64 0), (Go.Value.int Go.IntKind.i64 0), (Go.Value.int Go.IntKind.u8 0), (Go.Value.bool false)]) := ⟨by kernel_rfl⟩
instance : TB Try.prog 138 24 := ⟨by kernel_rfl⟩
instance : FD Try.prog 138 0 0 false 1 := ⟨#[⟨"ahead", 3, 0, false, "", "boatswain/bitq", 0⟩, ⟨"behind", 3, 1, false, "", "boatswain/bitq", 8⟩, ⟨"level", 5, 2, false, "", "boatswain/bitq", 16⟩, ⟨"there", 4, 3, false, "", "boatswain/bitq", 17⟩], ⟨"ahead", 3, 0, false, "", "boatswain/bitq", 0⟩, (Go.TypeDesc.int Go.IntKind.i64), by kernel_rfl, rfl, rfl, by kernel_rfl, rfl, by kernel_rfl⟩
instance : FD Try.prog 138 1 1 false 1 := ⟨#[⟨"ahead", 3, 0, false, "", "boatswain/bitq", 0⟩, ⟨"behind", 3, 1, false, "", "boatswain/bitq", 8⟩, ⟨"level", 5, 2, false, "", "boatswain/bitq", 16⟩, ⟨"there", 4, 3, false, "", "boatswain/bitq", 17⟩], ⟨"behind", 3, 1, false, "", "boatswain/bitq", 8⟩, (Go.TypeDesc.int Go.IntKind.i64), by kernel_rfl, rfl, rfl, by kernel_rfl, rfl, by kernel_rfl⟩
instance : FD Try.prog 138 2 2 false 1 := ⟨#[⟨"ahead", 3, 0, false, "", "boatswain/bitq", 0⟩, ⟨"behind", 3, 1, false, "", "boatswain/bitq", 8⟩, ⟨"level", 5, 2, false, "", "boatswain/bitq", 16⟩, ⟨"there", 4, 3, false, "", "boatswain/bitq", 17⟩], ⟨"level", 5, 2, false, "", "boatswain/bitq", 16⟩, (Go.TypeDesc.int Go.IntKind.u8), by kernel_rfl, rfl, rfl, by kernel_rfl, rfl, by kernel_rfl⟩
instance : FD Try.prog 138 3 3 false 1 := ⟨#[⟨"ahead", 3, 0, false, "", "boatswain/bitq", 0⟩, ⟨"behind", 3, 1, false, "", "boatswain/bitq", 8⟩, ⟨"level", 5, 2, false, "", "boatswain/bitq", 16⟩, ⟨"there", 4, 3, false, "", "boatswain/bitq", 17⟩], ⟨"there", 4, 3, false, "", "boatswain/bitq", 17⟩, Go.TypeDesc.bool, by kernel_rfl, rfl, rfl, by kernel_rfl, rfl, by kernel_rfl⟩
instance : TF Try.prog 138 #[(0, 1), (1, 1), (2, 1), (3, 1)] := ⟨#[⟨"ahead", 3, 0, false, "", "boatswain/bitq", 0⟩, ⟨"behind", 3, 1, false, "", "boatswain/bitq", 8⟩, ⟨"level", 5, 2, false, "", "boatswain/bitq", 16⟩, ⟨"there", 4, 3, false, "", "boatswain/bitq", 17⟩], by kernel_rfl, fun w => by kernel_rfl⟩
instance : TI Try.prog 139 (Go.TypeDesc.struct #[⟨"ahead", 3, 0, false, "", "boatswain/bitq", 0⟩, ⟨"behind", 3, 1, false, "", "boatswain/bitq", 8⟩, ⟨"level", 5, 2, false, "", "boatswain/bitq", 16⟩, ⟨"there", 4, 3, false, "", "boatswain/bitq", 17⟩]) 4 := ⟨by kernel_rfl, by kernel_rfl⟩
instance : TZ Try.prog 139 (Go.Value.agg #[(Go.Value.int Go.IntKind.i64 0), (Go.Value.int Go.IntKind.i64 0), (Go.Value.int Go.IntKind.u8 0), (Go.Value.bool false)]) := ⟨by kernel_rfl⟩
instance : TB Try.prog 139 24 := ⟨by kernel_rfl⟩
instance : FD Try.prog 139 0 0 false 1 := ⟨#[⟨"ahead", 3, 0, false, "", "boatswain/bitq", 0⟩, ⟨"behind", 3, 1, false, "", "boatswain/bitq", 8⟩, ⟨"level", 5, 2, false, "", "boatswain/bitq", 16⟩, ⟨"there", 4, 3, false, "", "boatswain/bitq", 17⟩], ⟨"ahead", 3, 0, false, "", "boatswain/bitq", 0⟩, (Go.TypeDesc.int Go.IntKind.i64), by kernel_rfl, rfl, rfl, by kernel_rfl, rfl, by kernel_rfl⟩
instance : FD Try.prog 139 1 1 false 1 := ⟨#[⟨"ahead", 3, 0, false, "", "boatswain/bitq", 0⟩, ⟨"behind", 3, 1, false, "", "boatswain/bitq", 8⟩, ⟨"level", 5, 2, false, "", "boatswain/bitq", 16⟩, ⟨"there", 4, 3, false, "", "boatswain/bitq", 17⟩], ⟨"behind", 3, 1, false, "", "boatswain/bitq", 8⟩, (Go.TypeDesc.int Go.IntKind.i64), by kernel_rfl, rfl, rfl, by kernel_rfl, rfl, by kernel_rfl⟩
instance : FD Try.prog 139 2 2 false 1 := ⟨#[⟨"ahead", 3, 0, false, "", "boatswain/bitq", 0⟩, ⟨"behind", 3, 1, false, "", "boatswain/bitq", 8⟩, ⟨"level", 5, 2, false, "", "boatswain/bitq", 16⟩, ⟨"there", 4, 3, false, "", "boatswain/bitq", 17⟩], ⟨"level", 5, 2, false, "", "boatswain/bitq", 16⟩, (Go.TypeDesc.int Go.IntKind.u8), by kernel_rfl, rfl, rfl, by kernel_rfl, rfl, by kernel_rfl⟩
instance : FD Try.prog 139 3 3 false 1 := ⟨#[⟨"ahead", 3, 0, false, "", "boatswain/bitq", 0⟩, ⟨"behind", 3, 1, false, "", "boatswain/bitq", 8⟩, ⟨"level", 5, 2, false, "", "boatswain/bitq", 16⟩, ⟨"there", 4, 3, false, "", "boatswain/bitq", 17⟩], ⟨"there", 4, 3, false, "", "boatswain/bitq", 17⟩, Go.TypeDesc.bool, by kernel_rfl, rfl, rfl, by kernel_rfl, rfl, by kernel_rfl⟩
instance : TF Try.prog 139 #[(0, 1), (1, 1), (2, 1), (3, 1)] := ⟨#[⟨"ahead", 3, 0, false, "", "boatswain/bitq", 0⟩, ⟨"behind", 3, 1, false, "", "boatswain/bitq", 8⟩, ⟨"level", 5, 2, false, "", "boatswain/bitq", 16⟩, ⟨"there", 4, 3, false, "", "boatswain/bitq", 17⟩], by kernel_rfl, fun w => by kernel_rfl⟩
instance : TI Try.prog 140 (Go.TypeDesc.func #[119] #[119] false) 1 := ⟨by kernel_rfl, by kernel_rfl⟩
instance : TZ Try.prog 140 Go.Value.nilFunc := ⟨by kernel_rfl⟩
instance : TB Try.prog 140 8 := ⟨by kernel_rfl⟩
instance : TI Try.prog 141 (Go.TypeDesc.func #[133] #[] false) 1 := ⟨by kernel_rfl, by kernel_rfl⟩
instance : TZ Try.prog 141 Go.Value.nilFunc := ⟨by kernel_rfl⟩
instance : TB Try.prog 141 8 := ⟨by kernel_rfl⟩
instance : TI Try.prog 142 (Go.TypeDesc.func #[3, 3] #[3] false) 1 := ⟨by kernel_rfl, by kernel_rfl⟩
instance : TZ Try.prog 142 Go.Value.nilFunc := ⟨by kernel_rfl⟩
instance : TB Try.prog 142 8 := ⟨by kernel_rfl⟩
instance : TI Try.prog 143 (Go.TypeDesc.func #[29] #[3] false) 1 := ⟨by kernel_rfl, by kernel_rfl⟩
instance : TZ Try.prog 143 Go.Value.nilFunc := ⟨by kernel_rfl⟩
instance : TB Try.prog 143 8 := ⟨by kernel_rfl⟩
instance : TI Try.prog 144 (Go.TypeDesc.func #[3, 3] #[4] false) 1 := ⟨by kernel_rfl, by kernel_rfl⟩
instance : TZ Try.prog 144 Go.Value.nilFunc := ⟨by kernel_rfl⟩
instance : TB Try.prog 144 8 := ⟨by kernel_rfl⟩
instance : TI Try.prog 145 (Go.TypeDesc.int Go.IntKind.u64) 1 := ⟨by kernel_rfl, by kernel_rfl⟩
instance : TZ Try.prog 145 (Go.Value.int Go.IntKind.u64 0) := ⟨by kernel_rfl⟩
instance : TB Try.prog 145 8 := ⟨by kernel_rfl⟩
instance : TI Try.prog 146 (Go.TypeDesc.func #[144] #[] false) 1 := ⟨by kernel_rfl, by kernel_rfl⟩
instance : TZ Try.prog 146 Go.Value.nilFunc := ⟨by kernel_rfl⟩
instance : TB Try.prog 146 8 := ⟨by kernel_rfl⟩
instance : TI Try.prog 147 (Go.TypeDesc.func #[144] #[] false) 1 := ⟨by kernel_rfl, by kernel_rfl⟩
instance : TZ Try.prog 147 Go.Value.nilFunc := ⟨by kernel_rfl⟩
instance : TB Try.prog 147 8 := ⟨by kernel_rfl⟩
instance : TI Try.prog 148 (Go.TypeDesc.func #[53] #[147] false) 1 := ⟨by kernel_rfl, by kernel_rfl⟩
instance : TZ Try.prog 148 Go.Value.nilFunc := ⟨by kernel_rfl⟩
instance : TB Try.prog 148 8 := ⟨by kernel_rfl⟩
instance : TI Try.prog 149 (Go.TypeDesc.func #[] #[9] false) 1 := ⟨by kernel_rfl, by kernel_rfl⟩
instance : TZ Try.prog 149 Go.Value.nilFunc := ⟨by kernel_rfl⟩
instance : TB Try.prog 149 8 := ⟨by kernel_rfl⟩
instance : TI Try.prog 150 (Go.TypeDesc.struct #[⟨"_interface", 17, 0, false, "", "runtime", 0⟩, ⟨"concrete", 17, 1, false, "", "runtime", 8⟩, ⟨"asserted", 17, 2, false, "", "runtime", 16⟩, ⟨"missingMethod", 9, 3, false, "", "runtime", 24⟩]) 4 := ⟨by kernel_rfl, by kernel_rfl⟩
instance : TZ Try.prog 150 (Go.Value.agg #[(Go.Value.pointer none), (Go.Value.pointer none), (Go.Value.pointer none), (Go.Value.string (ByteArray.mk #[]))]) := ⟨by kernel_rfl⟩
instance : TB Try.prog 150 40 := ⟨by kernel_rfl⟩
instance : FD Try.prog 150 0 0 false 1 := ⟨#[⟨"_interface", 17, 0, false, "", "runtime", 0⟩, ⟨"concrete", 17, 1, false, "", "runtime", 8⟩, ⟨"asserted", 17, 2, false, "", "runtime", 16⟩, ⟨"missingMethod", 9, 3, false, "", "runtime", 24⟩], ⟨"_interface", 17, 0, false, "", "runtime", 0⟩, (Go.TypeDesc.pointer 163), by kernel_rfl, rfl, rfl, by kernel_rfl, rfl, by kernel_rfl⟩
instance : FD Try.prog 150 1 1 false 1 := ⟨#[⟨"_interface", 17, 0, false, "", "runtime", 0⟩, ⟨"concrete", 17, 1, false, "", "runtime", 8⟩, ⟨"asserted", 17, 2, false, "", "runtime", 16⟩, ⟨"missingMethod", 9, 3, false, "", "runtime", 24⟩], ⟨"concrete", 17, 1, false, "", "runtime", 8⟩, (Go.TypeDesc.pointer 163), by kernel_rfl, rfl, rfl, by kernel_rfl, rfl, by kernel_rfl⟩
instance : FD Try.prog 150 2 2 false 1 := ⟨#[⟨"_interface", 17, 0, false, "", "runtime", 0⟩, ⟨"concrete", 17, 1, false, "", "runtime", 8⟩, ⟨"asserted", 17, 2, false, "", "runtime", 16⟩, ⟨"missingMethod", 9, 3, false, "", "runtime", 24⟩], ⟨"asserted", 17, 2, false, "", "runtime", 16⟩, (Go.TypeDesc.pointer 163), by kernel_rfl, rfl, rfl, by kernel_rfl, rfl, by kernel_rfl⟩
instance : FD Try.prog 150 3 3 false 1 := ⟨#[⟨"_interface", 17, 0, false, "", "runtime", 0⟩, ⟨"concrete", 17, 1, false, "", "runtime", 8⟩, ⟨"asserted", 17, 2, false, "", "runtime", 16⟩, ⟨"missingMethod", 9, 3, false, "", "runtime", 24⟩], ⟨"missingMethod", 9, 3, false, "", "runtime", 24⟩, Go.TypeDesc.string, by kernel_rfl, rfl, rfl, by kernel_rfl, rfl, by kernel_rfl⟩
instance : TF Try.prog 150 #[(0, 1), (1, 1), (2, 1), (3, 1)] := ⟨#[⟨"_interface", 17, 0, false, "", "runtime", 0⟩, ⟨"concrete", 17, 1, false, "", "runtime", 8⟩, ⟨"asserted", 17, 2, false, "", "runtime", 16⟩, ⟨"missingMethod", 9, 3, false, "", "runtime", 24⟩], by kernel_rfl, fun w => by kernel_rfl⟩
instance : TI Try.prog 151 (Go.TypeDesc.struct #[⟨"_interface", 17, 0, false, "", "runtime", 0⟩, ⟨"concrete", 17, 1, false, "", "runtime", 8⟩, ⟨"asserted", 17, 2, false, "", "runtime", 16⟩, ⟨"missingMethod", 9, 3, false, "", "runtime", 24⟩]) 4 := ⟨by kernel_rfl, by kernel_rfl⟩
instance : TZ Try.prog 151 (Go.Value.agg #[(Go.Value.pointer none), (Go.Value.pointer none), (Go.Value.pointer none), (Go.Value.string (ByteArray.mk #[]))]) := ⟨by kernel_rfl⟩
instance : TB Try.prog 151 40 := ⟨by kernel_rfl⟩
instance : FD Try.prog 151 0 0 false 1 := ⟨#[⟨"_interface", 17, 0, false, "", "runtime", 0⟩, ⟨"concrete", 17, 1, false, "", "runtime", 8⟩, ⟨"asserted", 17, 2, false, "", "runtime", 16⟩, ⟨"missingMethod", 9, 3, false, "", "runtime", 24⟩], ⟨"_interface", 17, 0, false, "", "runtime", 0⟩, (Go.TypeDesc.pointer 163), by kernel_rfl, rfl, rfl, by kernel_rfl, rfl, by kernel_rfl⟩
instance : FD Try.prog 151 1 1 false 1 := ⟨#[⟨"_interface", 17, 0, false, "", "runtime", 0⟩, ⟨"concrete", 17, 1, false, "", "runtime", 8⟩, ⟨"asserted", 17, 2, false, "", "runtime", 16⟩, ⟨"missingMethod", 9, 3, false, "", "runtime", 24⟩], ⟨"concrete", 17, 1, false, "", "runtime", 8⟩, (Go.TypeDesc.pointer 163), by kernel_rfl, rfl, rfl, by kernel_rfl, rfl, by kernel_rfl⟩
instance : FD Try.prog 151 2 2 false 1 := ⟨#[⟨"_interface", 17, 0, false, "", "runtime", 0⟩, ⟨"concrete", 17, 1, false, "", "runtime", 8⟩, ⟨"asserted", 17, 2, false, "", "runtime", 16⟩, ⟨"missingMethod", 9, 3, false, "", "runtime", 24⟩], ⟨"asserted", 17, 2, false, "", "runtime", 16⟩, (Go.TypeDesc.pointer 163), by kernel_rfl, rfl, rfl, by kernel_rfl, rfl, by kernel_rfl⟩
instance : FD Try.prog 151 3 3 false 1 := ⟨#[⟨"_interface", 17, 0, false, "", "runtime", 0⟩, ⟨"concrete", 17, 1, false, "", "runtime", 8⟩, ⟨"asserted", 17, 2, false, "", "runtime", 16⟩, ⟨"missingMethod", 9, 3, false, "", "runtime", 24⟩], ⟨"missingMethod", 9, 3, false, "", "runtime", 24⟩, Go.TypeDesc.string, by kernel_rfl, rfl, rfl, by kernel_rfl, rfl, by kernel_rfl⟩
instance : TF Try.prog 151 #[(0, 1), (1, 1), (2, 1), (3, 1)] := ⟨#[⟨"_interface", 17, 0, false, "", "runtime", 0⟩, ⟨"concrete", 17, 1, false, "", "runtime", 8⟩, ⟨"asserted", 17, 2, false, "", "runtime", 16⟩, ⟨"missingMethod", 9, 3, false, "", "runtime", 24⟩], by kernel_rfl, fun w => by kernel_rfl⟩
instance : TI Try.prog 152 (Go.TypeDesc.array 0 16) 0 := ⟨by kernel_rfl, by kernel_rfl⟩
instance : TZ Try.prog 152 (Go.Value.agg #[]) := ⟨by kernel_rfl⟩
instance : TB Try.prog 152 0 := ⟨by kernel_rfl⟩
instance : TI Try.prog 153 (Go.TypeDesc.struct #[⟨"_", 152, 0, false, "", "runtime", 0⟩]) 0 := ⟨by kernel_rfl, by kernel_rfl⟩
instance : TZ Try.prog 153 (Go.Value.agg #[]) := ⟨by kernel_rfl⟩
instance : TB Try.prog 153 0 := ⟨by kernel_rfl⟩
instance : FD Try.prog 153 0 0 true 0 := ⟨#[⟨"_", 152, 0, false, "", "runtime", 0⟩], ⟨"_", 152, 0, false, "", "runtime", 0⟩, (Go.TypeDesc.array 0 16), by kernel_rfl, rfl, rfl, by kernel_rfl, rfl, by kernel_rfl⟩
instance : TF Try.prog 153 #[(0, 0)] := ⟨#[⟨"_", 152, 0, false, "", "runtime", 0⟩], by kernel_rfl, fun w => by kernel_rfl⟩
instance : TI Try.prog 154 (Go.TypeDesc.struct #[⟨"_", 152, 0, false, "", "runtime", 0⟩]) 0 := ⟨by kernel_rfl, by kernel_rfl⟩
instance : TZ Try.prog 154 (Go.Value.agg #[]) := ⟨by kernel_rfl⟩
instance : TB Try.prog 154 0 := ⟨by kernel_rfl⟩
instance : FD Try.prog 154 0 0 true 0 := ⟨#[⟨"_", 152, 0, false, "", "runtime", 0⟩], ⟨"_", 152, 0, false, "", "runtime", 0⟩, (Go.TypeDesc.array 0 16), by kernel_rfl, rfl, rfl, by kernel_rfl, rfl, by kernel_rfl⟩
instance : TF Try.prog 154 #[(0, 0)] := ⟨#[⟨"_", 152, 0, false, "", "runtime", 0⟩], by kernel_rfl, fun w => by kernel_rfl⟩
instance : TI Try.prog 155 (Go.TypeDesc.int Go.IntKind.u32) 1 := ⟨by kernel_rfl, by kernel_rfl⟩
instance : TZ Try.prog 155 (Go.Value.int Go.IntKind.u32 0) := ⟨by kernel_rfl⟩
instance : TB Try.prog 155 4 := ⟨by kernel_rfl⟩
instance : TI Try.prog 156 (Go.TypeDesc.int Go.IntKind.u8) 1 := ⟨by kernel_rfl, by kernel_rfl⟩
instance : TZ Try.prog 156 (Go.Value.int Go.IntKind.u8 0) := ⟨by kernel_rfl⟩
instance : TB Try.prog 156 1 := ⟨by kernel_rfl⟩
instance : TI Try.prog 157 (Go.TypeDesc.int Go.IntKind.u8) 1 := ⟨by kernel_rfl, by kernel_rfl⟩
instance : TZ Try.prog 157 (Go.Value.int Go.IntKind.u8 0) := ⟨by kernel_rfl⟩
instance : TB Try.prog 157 1 := ⟨by kernel_rfl⟩
instance : TI Try.prog 158 (Go.TypeDesc.func #[164, 164] #[4] false) 1 := ⟨by kernel_rfl, by kernel_rfl⟩
instance : TZ Try.prog 158 Go.Value.nilFunc := ⟨by kernel_rfl⟩
instance : TB Try.prog 158 8 := ⟨by kernel_rfl⟩
instance : TI Try.prog 159 (Go.TypeDesc.pointer 5) 1 := ⟨by kernel_rfl, by kernel_rfl⟩
instance : TZ Try.prog 159 (Go.Value.pointer none) := ⟨by kernel_rfl⟩
instance : TB Try.prog 159 8 := ⟨by kernel_rfl⟩
instance : TI Try.prog 160 (Go.TypeDesc.int Go.IntKind.i32) 1 := ⟨by kernel_rfl, by kernel_rfl⟩
instance : TZ Try.prog 160 (Go.Value.int Go.IntKind.i32 0) := ⟨by kernel_rfl⟩
instance : TB Try.prog 160 4 := ⟨by kernel_rfl⟩
instance : TI Try.prog 161 (Go.TypeDesc.int Go.IntKind.i32) 1 := ⟨by kernel_rfl, by kernel_rfl⟩
instance : TZ Try.prog 161 (Go.Value.int Go.IntKind.i32 0) := ⟨by kernel_rfl⟩
instance : TB Try.prog 161 4 := ⟨by kernel_rfl⟩
instance : TI Try.prog 162 (Go.TypeDesc.struct #[⟨"Size_", 12, 0, false, "", "", 0⟩, ⟨"PtrBytes", 12, 1, false, "", "", 8⟩, ⟨"Hash", 155, 2, false, "", "", 16⟩, ⟨"TFlag", 156, 3, false, "", "", 20⟩, ⟨"Align_", 5, 4, false, "", "", 21⟩, ⟨"FieldAlign_", 5, 5, false, "", "", 22⟩, ⟨"Kind_", 157, 6, false, "", "", 23⟩, ⟨"Equal", 158, 7, false, "", "", 24⟩, ⟨"GCData", 159, 8, false, "", "", 32⟩, ⟨"Str", 160, 9, false, "", "", 40⟩, ⟨"PtrToThis", 161, 10, false, "", "", 44⟩]) 11 := ⟨by kernel_rfl, by kernel_rfl⟩
instance : TZ Try.prog 162 (Go.Value.agg #[(Go.Value.int Go.IntKind.u64 0), (Go.Value.int Go.IntKind.u64 0), (Go.Value.int Go.IntKind.u32 0), (Go.Value.int Go.IntKind.u8 0), (Go.Value.int Go.IntKind.u8 0), (Go.Value.int Go.IntKind.u8 0), (Go.Value.int Go.IntKind.u8 0), Go.Value.nilFunc, (Go.Value.pointer none), (Go.Value.int Go.IntKind.i32 0), (Go.Value.int Go.IntKind.i32 0)]) := ⟨by kernel_rfl⟩
instance : TB Try.prog 162 48 := ⟨by kernel_rfl⟩
instance : FD Try.prog 162 0 0 false 1 := ⟨#[⟨"Size_", 12, 0, false, "", "", 0⟩, ⟨"PtrBytes", 12, 1, false, "", "", 8⟩, ⟨"Hash", 155, 2, false, "", "", 16⟩, ⟨"TFlag", 156, 3, false, "", "", 20⟩, ⟨"Align_", 5, 4, false, "", "", 21⟩, ⟨"FieldAlign_", 5, 5, false, "", "", 22⟩, ⟨"Kind_", 157, 6, false, "", "", 23⟩, ⟨"Equal", 158, 7, false, "", "", 24⟩, ⟨"GCData", 159, 8, false, "", "", 32⟩, ⟨"Str", 160, 9, false, "", "", 40⟩, ⟨"PtrToThis", 161, 10, false, "", "", 44⟩], ⟨"Size_", 12, 0, false, "", "", 0⟩, (Go.TypeDesc.int Go.IntKind.u64), by kernel_rfl, rfl, rfl, by kernel_rfl, rfl, by kernel_rfl⟩
instance : FD Try.prog 162 1 1 false 1 := ⟨#[⟨"Size_", 12, 0, false, "", "", 0⟩, ⟨"PtrBytes", 12, 1, false, "", "", 8⟩, ⟨"Hash", 155, 2, false, "", "", 16⟩, ⟨"TFlag", 156, 3, false, "", "", 20⟩, ⟨"Align_", 5, 4, false, "", "", 21⟩, ⟨"FieldAlign_", 5, 5, false, "", "", 22⟩, ⟨"Kind_", 157, 6, false, "", "", 23⟩, ⟨"Equal", 158, 7, false, "", "", 24⟩, ⟨"GCData", 159, 8, false, "", "", 32⟩, ⟨"Str", 160, 9, false, "", "", 40⟩, ⟨"PtrToThis", 161, 10, false, "", "", 44⟩], ⟨"PtrBytes", 12, 1, false, "", "", 8⟩, (Go.TypeDesc.int Go.IntKind.u64), by kernel_rfl, rfl, rfl, by kernel_rfl, rfl, by kernel_rfl⟩
instance : FD Try.prog 162 2 2 false 1 := ⟨#[⟨"Size_", 12, 0, false, "", "", 0⟩, ⟨"PtrBytes", 12, 1, false, "", "", 8⟩, ⟨"Hash", 155, 2, false, "", "", 16⟩, ⟨"TFlag", 156, 3, false, "", "", 20⟩, ⟨"Align_", 5, 4, false, "", "", 21⟩, ⟨"FieldAlign_", 5, 5, false, "", "", 22⟩, ⟨"Kind_", 157, 6, false, "", "", 23⟩, ⟨"Equal", 158, 7, false, "", "", 24⟩, ⟨"GCData", 159, 8, false, "", "", 32⟩, ⟨"Str", 160, 9, false, "", "", 40⟩, ⟨"PtrToThis", 161, 10, false, "", "", 44⟩], ⟨"Hash", 155, 2, false, "", "", 16⟩, (Go.TypeDesc.int Go.IntKind.u32), by kernel_rfl, rfl, rfl, by kernel_rfl, rfl, by kernel_rfl⟩
instance : FD Try.prog 162 3 3 false 1 := ⟨#[⟨"Size_", 12, 0, false, "", "", 0⟩, ⟨"PtrBytes", 12, 1, false, "", "", 8⟩, ⟨"Hash", 155, 2, false, "", "", 16⟩, ⟨"TFlag", 156, 3, false, "", "", 20⟩, ⟨"Align_", 5, 4, false, "", "", 21⟩, ⟨"FieldAlign_", 5, 5, false, "", "", 22⟩, ⟨"Kind_", 157, 6, false, "", "", 23⟩, ⟨"Equal", 158, 7, false, "", "", 24⟩, ⟨"GCData", 159, 8, false, "", "", 32⟩, ⟨"Str", 160, 9, false, "", "", 40⟩, ⟨"PtrToThis", 161, 10, false, "", "", 44⟩], ⟨"TFlag", 156, 3, false, "", "", 20⟩, (Go.TypeDesc.int Go.IntKind.u8), by kernel_rfl, rfl, rfl, by kernel_rfl, rfl, by kernel_rfl⟩
instance : FD Try.prog 162 4 4 false 1 := ⟨#[⟨"Size_", 12, 0, false, "", "", 0⟩, ⟨"PtrBytes", 12, 1, false, "", "", 8⟩, ⟨"Hash", 155, 2, false, "", "", 16⟩, ⟨"TFlag", 156, 3, false, "", "", 20⟩, ⟨"Align_", 5, 4, false, "", "", 21⟩, ⟨"FieldAlign_", 5, 5, false, "", "", 22⟩, ⟨"Kind_", 157, 6, false, "", "", 23⟩, ⟨"Equal", 158, 7, false, "", "", 24⟩, ⟨"GCData", 159, 8, false, "", "", 32⟩, ⟨"Str", 160, 9, false, "", "", 40⟩, ⟨"PtrToThis", 161, 10, false, "", "", 44⟩], ⟨"Align_", 5, 4, false, "", "", 21⟩, (Go.TypeDesc.int Go.IntKind.u8), by kernel_rfl, rfl, rfl, by kernel_rfl, rfl, by kernel_rfl⟩
instance : FD Try.prog 162 5 5 false 1 := ⟨#[⟨"Size_", 12, 0, false, "", "", 0⟩, ⟨"PtrBytes", 12, 1, false, "", "", 8⟩, ⟨"Hash", 155, 2, false, "", "", 16⟩, ⟨"TFlag", 156, 3, false, "", "", 20⟩, ⟨"Align_", 5, 4, false, "", "", 21⟩, ⟨"FieldAlign_", 5, 5, false, "", "", 22⟩, ⟨"Kind_", 157, 6, false, "", "", 23⟩, ⟨"Equal", 158, 7, false, "", "", 24⟩, ⟨"GCData", 159, 8, false, "", "", 32⟩, ⟨"Str", 160, 9, false, "", "", 40⟩, ⟨"PtrToThis", 161, 10, false, "", "", 44⟩], ⟨"FieldAlign_", 5, 5, false, "", "", 22⟩, (Go.TypeDesc.int Go.IntKind.u8), by kernel_rfl, rfl, rfl, by kernel_rfl, rfl, by kernel_rfl⟩
instance : FD Try.prog 162 6 6 false 1 := ⟨#[⟨"Size_", 12, 0, false, "", "", 0⟩, ⟨"PtrBytes", 12, 1, false, "", "", 8⟩, ⟨"Hash", 155, 2, false, "", "", 16⟩, ⟨"TFlag", 156, 3, false, "", "", 20⟩, ⟨"Align_", 5, 4, false, "", "", 21⟩, ⟨"FieldAlign_", 5, 5, false, "", "", 22⟩, ⟨"Kind_", 157, 6, false, "", "", 23⟩, ⟨"Equal", 158, 7, false, "", "", 24⟩, ⟨"GCData", 159, 8, false, "", "", 32⟩, ⟨"Str", 160, 9, false, "", "", 40⟩, ⟨"PtrToThis", 161, 10, false, "", "", 44⟩], ⟨"Kind_", 157, 6, false, "", "", 23⟩, (Go.TypeDesc.int Go.IntKind.u8), by kernel_rfl, rfl, rfl, by kernel_rfl, rfl, by kernel_rfl⟩
instance : FD Try.prog 162 7 7 false 1 := ⟨#[⟨"Size_", 12, 0, false, "", "", 0⟩, ⟨"PtrBytes", 12, 1, false, "", "", 8⟩, ⟨"Hash", 155, 2, false, "", "", 16⟩, ⟨"TFlag", 156, 3, false, "", "", 20⟩, ⟨"Align_", 5, 4, false, "", "", 21⟩, ⟨"FieldAlign_", 5, 5, false, "", "", 22⟩, ⟨"Kind_", 157, 6, false, "", "", 23⟩, ⟨"Equal", 158, 7, false, "", "", 24⟩, ⟨"GCData", 159, 8, false, "", "", 32⟩, ⟨"Str", 160, 9, false, "", "", 40⟩, ⟨"PtrToThis", 161, 10, false, "", "", 44⟩], ⟨"Equal", 158, 7, false, "", "", 24⟩, (Go.TypeDesc.func #[164, 164] #[4] false), by kernel_rfl, rfl, rfl, by kernel_rfl, rfl, by kernel_rfl⟩
instance : FD Try.prog 162 8 8 false 1 := ⟨#[⟨"Size_", 12, 0, false, "", "", 0⟩, ⟨"PtrBytes", 12, 1, false, "", "", 8⟩, ⟨"Hash", 155, 2, false, "", "", 16⟩, ⟨"TFlag", 156, 3, false, "", "", 20⟩, ⟨"Align_", 5, 4, false, "", "", 21⟩, ⟨"FieldAlign_", 5, 5, false, "", "", 22⟩, ⟨"Kind_", 157, 6, false, "", "", 23⟩, ⟨"Equal", 158, 7, false, "", "", 24⟩, ⟨"GCData", 159, 8, false, "", "", 32⟩, ⟨"Str", 160, 9, false, "", "", 40⟩, ⟨"PtrToThis", 161, 10, false, "", "", 44⟩], ⟨"GCData", 159, 8, false, "", "", 32⟩, (Go.TypeDesc.pointer 5), by kernel_rfl, rfl, rfl, by kernel_rfl, rfl, by kernel_rfl⟩
instance : FD Try.prog 162 9 9 false 1 := ⟨#[⟨"Size_", 12, 0, false, "", "", 0⟩, ⟨"PtrBytes", 12, 1, false, "", "", 8⟩, ⟨"Hash", 155, 2, false, "", "", 16⟩, ⟨"TFlag", 156, 3, false, "", "", 20⟩, ⟨"Align_", 5, 4, false, "", "", 21⟩, ⟨"FieldAlign_", 5, 5, false, "", "", 22⟩, ⟨"Kind_", 157, 6, false, "", "", 23⟩, ⟨"Equal", 158, 7, false, "", "", 24⟩, ⟨"GCData", 159, 8, false, "", "", 32⟩, ⟨"Str", 160, 9, false, "", "", 40⟩, ⟨"PtrToThis", 161, 10, false, "", "", 44⟩], ⟨"Str", 160, 9, false, "", "", 40⟩, (Go.TypeDesc.int Go.IntKind.i32), by kernel_rfl, rfl, rfl, by kernel_rfl, rfl, by kernel_rfl⟩
instance : FD Try.prog 162 10 10 false 1 := ⟨#[⟨"Size_", 12, 0, false, "", "", 0⟩, ⟨"PtrBytes", 12, 1, false, "", "", 8⟩, ⟨"Hash", 155, 2, false, "", "", 16⟩, ⟨"TFlag", 156, 3, false, "", "", 20⟩, ⟨"Align_", 5, 4, false, "", "", 21⟩, ⟨"FieldAlign_", 5, 5, false, "", "", 22⟩, ⟨"Kind_", 157, 6, false, "", "", 23⟩, ⟨"Equal", 158, 7, false, "", "", 24⟩, ⟨"GCData", 159, 8, false, "", "", 32⟩, ⟨"Str", 160, 9, false, "", "", 40⟩, ⟨"PtrToThis", 161, 10, false, "", "", 44⟩], ⟨"PtrToThis", 161, 10, false, "", "", 44⟩, (Go.TypeDesc.int Go.IntKind.i32), by kernel_rfl, rfl, rfl, by kernel_rfl, rfl, by kernel_rfl⟩
instance : TF Try.prog 162 #[(0, 1), (1, 1), (2, 1), (3, 1), (4, 1), (5, 1), (6, 1), (7, 1), (8, 1), (9, 1), (10, 1)] := ⟨#[⟨"Size_", 12, 0, false, "", "", 0⟩, ⟨"PtrBytes", 12, 1, false, "", "", 8⟩, ⟨"Hash", 155, 2, false, "", "", 16⟩, ⟨"TFlag", 156, 3, false, "", "", 20⟩, ⟨"Align_", 5, 4, false, "", "", 21⟩, ⟨"FieldAlign_", 5, 5, false, "", "", 22⟩, ⟨"Kind_", 157, 6, false, "", "", 23⟩, ⟨"Equal", 158, 7, false, "", "", 24⟩, ⟨"GCData", 159, 8, false, "", "", 32⟩, ⟨"Str", 160, 9, false, "", "", 40⟩, ⟨"PtrToThis", 161, 10, false, "", "", 44⟩], by kernel_rfl, fun w => by kernel_rfl⟩
instance : TI Try.prog 163 (Go.TypeDesc.struct #[⟨"Size_", 12, 0, false, "", "", 0⟩, ⟨"PtrBytes", 12, 1, false, "", "", 8⟩, ⟨"Hash", 155, 2, false, "", "", 16⟩, ⟨"TFlag", 156, 3, false, "", "", 20⟩, ⟨"Align_", 5, 4, false, "", "", 21⟩, ⟨"FieldAlign_", 5, 5, false, "", "", 22⟩, ⟨"Kind_", 157, 6, false, "", "", 23⟩, ⟨"Equal", 158, 7, false, "", "", 24⟩, ⟨"GCData", 159, 8, false, "", "", 32⟩, ⟨"Str", 160, 9, false, "", "", 40⟩, ⟨"PtrToThis", 161, 10, false, "", "", 44⟩]) 11 := ⟨by kernel_rfl, by kernel_rfl⟩
instance : TZ Try.prog 163 (Go.Value.agg #[(Go.Value.int Go.IntKind.u64 0), (Go.Value.int Go.IntKind.u64 0), (Go.Value.int Go.IntKind.u32 0), (Go.Value.int Go.IntKind.u8 0), (Go.Value.int Go.IntKind.u8 0), (Go.Value.int Go.IntKind.u8 0), (Go.Value.int Go.IntKind.u8 0), Go.Value.nilFunc, (Go.Value.pointer none), (Go.Value.int Go.IntKind.i32 0), (Go.Value.int Go.IntKind.i32 0)]) := ⟨by kernel_rfl⟩
instance : TB Try.prog 163 48 := ⟨by kernel_rfl⟩
instance : FD Try.prog 163 0 0 false 1 := ⟨#[⟨"Size_", 12, 0, false, "", "", 0⟩, ⟨"PtrBytes", 12, 1, false, "", "", 8⟩, ⟨"Hash", 155, 2, false, "", "", 16⟩, ⟨"TFlag", 156, 3, false, "", "", 20⟩, ⟨"Align_", 5, 4, false, "", "", 21⟩, ⟨"FieldAlign_", 5, 5, false, "", "", 22⟩, ⟨"Kind_", 157, 6, false, "", "", 23⟩, ⟨"Equal", 158, 7, false, "", "", 24⟩, ⟨"GCData", 159, 8, false, "", "", 32⟩, ⟨"Str", 160, 9, false, "", "", 40⟩, ⟨"PtrToThis", 161, 10, false, "", "", 44⟩], ⟨"Size_", 12, 0, false, "", "", 0⟩, (Go.TypeDesc.int Go.IntKind.u64), by kernel_rfl, rfl, rfl, by kernel_rfl, rfl, by kernel_rfl⟩
instance : FD Try.prog 163 1 1 false 1 := ⟨#[⟨"Size_", 12, 0, false, "", "", 0⟩, ⟨"PtrBytes", 12, 1, false, "", "", 8⟩, ⟨"Hash", 155, 2, false, "", "", 16⟩, ⟨"TFlag", 156, 3, false, "", "", 20⟩, ⟨"Align_", 5, 4, false, "", "", 21⟩, ⟨"FieldAlign_", 5, 5, false, "", "", 22⟩, ⟨"Kind_", 157, 6, false, "", "", 23⟩, ⟨"Equal", 158, 7, false, "", "", 24⟩, ⟨"GCData", 159, 8, false, "", "", 32⟩, ⟨"Str", 160, 9, false, "", "", 40⟩, ⟨"PtrToThis", 161, 10, false, "", "", 44⟩], ⟨"PtrBytes", 12, 1, false, "", "", 8⟩, (Go.TypeDesc.int Go.IntKind.u64), by kernel_rfl, rfl, rfl, by kernel_rfl, rfl, by kernel_rfl⟩
instance : FD Try.prog 163 2 2 false 1 := ⟨#[⟨"Size_", 12, 0, false, "", "", 0⟩, ⟨"PtrBytes", 12, 1, false, "", "", 8⟩, ⟨"Hash", 155, 2, false, "", "", 16⟩, ⟨"TFlag", 156, 3, false, "", "", 20⟩, ⟨"Align_", 5, 4, false, "", "", 21⟩, ⟨"FieldAlign_", 5, 5, false, "", "", 22⟩, ⟨"Kind_", 157, 6, false, "", "", 23⟩, ⟨"Equal", 158, 7, false, "", "", 24⟩, ⟨"GCData", 159, 8, false, "", "", 32⟩, ⟨"Str", 160, 9, false, "", "", 40⟩, ⟨"PtrToThis", 161, 10, false, "", "", 44⟩], ⟨"Hash", 155, 2, false, "", "", 16⟩, (Go.TypeDesc.int Go.IntKind.u32), by kernel_rfl, rfl, rfl, by kernel_rfl, rfl, by kernel_rfl⟩
instance : FD Try.prog 163 3 3 false 1 := ⟨#[⟨"Size_", 12, 0, false, "", "", 0⟩, ⟨"PtrBytes", 12, 1, false, "", "", 8⟩, ⟨"Hash", 155, 2, false, "", "", 16⟩, ⟨"TFlag", 156, 3, false, "", "", 20⟩, ⟨"Align_", 5, 4, false, "", "", 21⟩, ⟨"FieldAlign_", 5, 5, false, "", "", 22⟩, ⟨"Kind_", 157, 6, false, "", "", 23⟩, ⟨"Equal", 158, 7, false, "", "", 24⟩, ⟨"GCData", 159, 8, false, "", "", 32⟩, ⟨"Str", 160, 9, false, "", "", 40⟩, ⟨"PtrToThis", 161, 10, false, "", "", 44⟩], ⟨"TFlag", 156, 3, false, "", "", 20⟩, (Go.TypeDesc.int Go.IntKind.u8), by kernel_rfl, rfl, rfl, by kernel_rfl, rfl, by kernel_rfl⟩
instance : FD Try.prog 163 4 4 false 1 := ⟨#[⟨"Size_", 12, 0, false, "", "", 0⟩, ⟨"PtrBytes", 12, 1, false, "", "", 8⟩, ⟨"Hash", 155, 2, false, "", "", 16⟩, ⟨"TFlag", 156, 3, false, "", "", 20⟩, ⟨"Align_", 5, 4, false, "", "", 21⟩, ⟨"FieldAlign_", 5, 5, false, "", "", 22⟩, ⟨"Kind_", 157, 6, false, "", "", 23⟩, ⟨"Equal", 158, 7, false, "", "", 24⟩, ⟨"GCData", 159, 8, false, "", "", 32⟩, ⟨"Str", 160, 9, false, "", "", 40⟩, ⟨"PtrToThis", 161, 10, false, "", "", 44⟩], ⟨"Align_", 5, 4, false, "", "", 21⟩, (Go.TypeDesc.int Go.IntKind.u8), by kernel_rfl, rfl, rfl, by kernel_rfl, rfl, by kernel_rfl⟩
instance : FD Try.prog 163 5 5 false 1 := ⟨#[⟨"Size_", 12, 0, false, "", "", 0⟩, ⟨"PtrBytes", 12, 1, false, "", "", 8⟩, ⟨"Hash", 155, 2, false, "", "", 16⟩, ⟨"TFlag", 156, 3, false, "", "", 20⟩, ⟨"Align_", 5, 4, false, "", "", 21⟩, ⟨"FieldAlign_", 5, 5, false, "", "", 22⟩, ⟨"Kind_", 157, 6, false, "", "", 23⟩, ⟨"Equal", 158, 7, false, "", "", 24⟩, ⟨"GCData", 159, 8, false, "", "", 32⟩, ⟨"Str", 160, 9, false, "", "", 40⟩, ⟨"PtrToThis", 161, 10, false, "", "", 44⟩], ⟨"FieldAlign_", 5, 5, false, "", "", 22⟩, (Go.TypeDesc.int Go.IntKind.u8), by kernel_rfl, rfl, rfl, by kernel_rfl, rfl, by kernel_rfl⟩
instance : FD Try.prog 163 6 6 false 1 := ⟨#[⟨"Size_", 12, 0, false, "", "", 0⟩, ⟨"PtrBytes", 12, 1, false, "", "", 8⟩, ⟨"Hash", 155, 2, false, "", "", 16⟩, ⟨"TFlag", 156, 3, false, "", "", 20⟩, ⟨"Align_", 5, 4, false, "", "", 21⟩, ⟨"FieldAlign_", 5, 5, false, "", "", 22⟩, ⟨"Kind_", 157, 6, false, "", "", 23⟩, ⟨"Equal", 158, 7, false, "", "", 24⟩, ⟨"GCData", 159, 8, false, "", "", 32⟩, ⟨"Str", 160, 9, false, "", "", 40⟩, ⟨"PtrToThis", 161, 10, false, "", "", 44⟩], ⟨"Kind_", 157, 6, false, "", "", 23⟩, (Go.TypeDesc.int Go.IntKind.u8), by kernel_rfl, rfl, rfl, by kernel_rfl, rfl, by kernel_rfl⟩
instance : FD Try.prog 163 7 7 false 1 := ⟨#[⟨"Size_", 12, 0, false, "", "", 0⟩, ⟨"PtrBytes", 12, 1, false, "", "", 8⟩, ⟨"Hash", 155, 2, false, "", "", 16⟩, ⟨"TFlag", 156, 3, false, "", "", 20⟩, ⟨"Align_", 5, 4, false, "", "", 21⟩, ⟨"FieldAlign_", 5, 5, false, "", "", 22⟩, ⟨"Kind_", 157, 6, false, "", "", 23⟩, ⟨"Equal", 158, 7, false, "", "", 24⟩, ⟨"GCData", 159, 8, false, "", "", 32⟩, ⟨"Str", 160, 9, false, "", "", 40⟩, ⟨"PtrToThis", 161, 10, false, "", "", 44⟩], ⟨"Equal", 158, 7, false, "", "", 24⟩, (Go.TypeDesc.func #[164, 164] #[4] false), by kernel_rfl, rfl, rfl, by kernel_rfl, rfl, by kernel_rfl⟩
instance : FD Try.prog 163 8 8 false 1 := ⟨#[⟨"Size_", 12, 0, false, "", "", 0⟩, ⟨"PtrBytes", 12, 1, false, "", "", 8⟩, ⟨"Hash", 155, 2, false, "", "", 16⟩, ⟨"TFlag", 156, 3, false, "", "", 20⟩, ⟨"Align_", 5, 4, false, "", "", 21⟩, ⟨"FieldAlign_", 5, 5, false, "", "", 22⟩, ⟨"Kind_", 157, 6, false, "", "", 23⟩, ⟨"Equal", 158, 7, false, "", "", 24⟩, ⟨"GCData", 159, 8, false, "", "", 32⟩, ⟨"Str", 160, 9, false, "", "", 40⟩, ⟨"PtrToThis", 161, 10, false, "", "", 44⟩], ⟨"GCData", 159, 8, false, "", "", 32⟩, (Go.TypeDesc.pointer 5), by kernel_rfl, rfl, rfl, by kernel_rfl, rfl, by kernel_rfl⟩
instance : FD Try.prog 163 9 9 false 1 := ⟨#[⟨"Size_", 12, 0, false, "", "", 0⟩, ⟨"PtrBytes", 12, 1, false, "", "", 8⟩, ⟨"Hash", 155, 2, false, "", "", 16⟩, ⟨"TFlag", 156, 3, false, "", "", 20⟩, ⟨"Align_", 5, 4, false, "", "", 21⟩, ⟨"FieldAlign_", 5, 5, false, "", "", 22⟩, ⟨"Kind_", 157, 6, false, "", "", 23⟩, ⟨"Equal", 158, 7, false, "", "", 24⟩, ⟨"GCData", 159, 8, false, "", "", 32⟩, ⟨"Str", 160, 9, false, "", "", 40⟩, ⟨"PtrToThis", 161, 10, false, "", "", 44⟩], ⟨"Str", 160, 9, false, "", "", 40⟩, (Go.TypeDesc.int Go.IntKind.i32), by kernel_rfl, rfl, rfl, by kernel_rfl, rfl, by kernel_rfl⟩
instance : FD Try.prog 163 10 10 false 1 := ⟨#[⟨"Size_", 12, 0, false, "", "", 0⟩, ⟨"PtrBytes", 12, 1, false, "", "", 8⟩, ⟨"Hash", 155, 2, false, "", "", 16⟩, ⟨"TFlag", 156, 3, false, "", "", 20⟩, ⟨"Align_", 5, 4, false, "", "", 21⟩, ⟨"FieldAlign_", 5, 5, false, "", "", 22⟩, ⟨"Kind_", 157, 6, false, "", "", 23⟩, ⟨"Equal", 158, 7, false, "", "", 24⟩, ⟨"GCData", 159, 8, false, "", "", 32⟩, ⟨"Str", 160, 9, false, "", "", 40⟩, ⟨"PtrToThis", 161, 10, false, "", "", 44⟩], ⟨"PtrToThis", 161, 10, false, "", "", 44⟩, (Go.TypeDesc.int Go.IntKind.i32), by kernel_rfl, rfl, rfl, by kernel_rfl, rfl, by kernel_rfl⟩
instance : TF Try.prog 163 #[(0, 1), (1, 1), (2, 1), (3, 1), (4, 1), (5, 1), (6, 1), (7, 1), (8, 1), (9, 1), (10, 1)] := ⟨#[⟨"Size_", 12, 0, false, "", "", 0⟩, ⟨"PtrBytes", 12, 1, false, "", "", 8⟩, ⟨"Hash", 155, 2, false, "", "", 16⟩, ⟨"TFlag", 156, 3, false, "", "", 20⟩, ⟨"Align_", 5, 4, false, "", "", 21⟩, ⟨"FieldAlign_", 5, 5, false, "", "", 22⟩, ⟨"Kind_", 157, 6, false, "", "", 23⟩, ⟨"Equal", 158, 7, false, "", "", 24⟩, ⟨"GCData", 159, 8, false, "", "", 32⟩, ⟨"Str", 160, 9, false, "", "", 40⟩, ⟨"PtrToThis", 161, 10, false, "", "", 44⟩], by kernel_rfl, fun w => by kernel_rfl⟩
instance : TI Try.prog 164 Go.TypeDesc.unsafePointer 1 := ⟨by kernel_rfl, by kernel_rfl⟩
instance : TZ Try.prog 164 (Go.Value.pointer none) := ⟨by kernel_rfl⟩
instance : TB Try.prog 164 8 := ⟨by kernel_rfl⟩
end Go.Proofs

/- Slices of ids that a function fills. -/
namespace Go.Proofs
open Go Go.Gx
variable {oo : World}
abbrev ownI (v : Value) (l : List Int) : HP := own v 3 1 l.length (ints l)
end Go.Proofs

/- The reference's set of layer 10: its list of items: where an id stands, taking one out, List, Len, Fork. -/
namespace Go.Proofs
open Go Go.Gx
variable {oo : World}

def rsO (p : Value) (n : Nat) (most : Int) (l : List KItem) : HP := fun F => ∃ b s, (p = .pointer (some ⟨b, 0, none⟩) ∧ l.length ≤ 1000000) ∧ Star [pt b (.cells #[.int .i64 n, .int .i64 most, s] 107 (0, 0)), own s 133 4 l.length (l.flatMap KItem.cells)] F
theorem rsO_open {w : World} {L : List HP} {p : Value} {n : Nat} {most : Int} {l : List KItem} (h : Sat oo w (rsO p n most l :: L)) :
    ∃ b sp cap, p = .pointer (some ⟨b, 0, none⟩) ∧ l.length ≤ 1000000 ∧ Sat oo w (pt b (.cells #[.int .i64 n, .int .i64 most, .slice sp l.length cap] 107 (0, 0)) :: own (.slice sp l.length cap) 133 4 l.length (l.flatMap KItem.cells) :: L) := by
  obtain ⟨⟨b, s⟩, h⟩ := h.ex (α := Nat × Value) 0 rfl (q := fun x F => (p = .pointer (some ⟨x.1, 0, none⟩) ∧ l.length ≤ 1000000) ∧ Star [pt x.1 (.cells #[.int .i64 n, .int .i64 most, x.2] 107 (0, 0)), own x.2 133 4 l.length (l.flatMap KItem.cells)] F) (fun F ⟨b, s, h⟩ => ⟨(b, s), h⟩)
  obtain ⟨h1, h2⟩ := h.fact 0 rfl (fun F hF => hF.1)
  have h3 := (h.imp 0 rfl (fun F hF => hF.2)).unstar
  obtain ⟨sp, cap, rfl⟩ := h3.ownForm 1 rfl
  exact ⟨b, sp, cap, h1, h2, h3⟩
theorem rsO_shut {w : World} {L : List HP} {b : Nat} {n : Nat} {most : Int} {s : Value} {l : List KItem} (hl : l.length ≤ 1000000)
    (h : Sat oo w (pt b (.cells #[.int .i64 n, .int .i64 most, s] 107 (0, 0)) :: own s 133 4 l.length (l.flatMap KItem.cells) :: L)) : Sat oo w (rsO (.pointer (some ⟨b, 0, none⟩)) n most l :: L) := by
  have h1 := Sat.star (B := [pt b (.cells #[.int .i64 n, .int .i64 most, s] 107 (0, 0)), own s 133 4 l.length (l.flatMap KItem.cells)]) (L := L) h
  exact h1.imp 0 rfl (fun F hF => ⟨b, s, ⟨rfl, hl⟩, hF⟩)
theorem rs_plain (l : List KItem) : (l.flatMap KItem.cells).all Value.plain = true := rows_plain (f := KItem.cells) (fun _ => rfl) l

set_option maxHeartbeats 1000000 in
theorem rsAt (p : Value) (n : Nat) (most : Int) (l : List KItem) (id : Int) : Ct Try.prog 92 #[p, .int .i64 id] [rsO p n most l] (fun v ps => v = .int .i64 (ixOf (l.map KItem.id) id) ∧ ps = [rsO p n most l]) := by
  refine Ct.enter Try.func92 rfl (Nat.le_of_ble_eq_true rfl) ?_
  intro oo w R hS
  change RC _ _ _ _ _ _ [(0, _), (1, _)] _
  obtain ⟨b, sp, cap, rfl, hl, hS⟩ := rsO_open hS
  refine RC.seq ?_
  refine RC.region rfl ?_
  refine RL.q (Qt.as rfl) ?_
  refine RL.nil ?_
  refine RE.sqN ?_
  refine RC.seq ?_
  refine RC.seq ?_
  refine RC.region rfl ?_
  refine RL.q (Qt.as rfl) ?_
  refine RL.nil ?_
  refine RE.sqN ?_
  refine RC.block ?_
  refine RC.loop (γ := Nat) (fun k E w' => E = [(5, .int .i64 k), (0, .pointer (some ⟨b, 0, none⟩)), (1, .int .i64 id)] ∧ w' = w ∧ k ≤ l.length ∧ ixFrom ((l.drop k).map KItem.id) id k = ixOf (l.map KItem.id) id) (fun k => l.length - k) 0 _ (by (repeat (first | exact Sub.nil | refine Sub.cons rfl ?_))) ⟨rfl, rfl, by omega, rfl⟩ ?_
  rintro k E w' ⟨rfl, rfl, hk, hrat⟩
  refine RC.seq ?_
  refine RC.seq ?_
  refine RC.region rfl ?_
  refine RL.q (Qt.mv rfl) ?_
  refine RL.q (Qt.neqN rfl rfl) ?_
  refine RL.q (Qt.mv rfl) ?_
  refine RLG.start 8 true rfl ?_
  refine RLG.q rfl rfl rfl (fun _ => Qt.mv rfl) ?_
  refine RLG.q rfl rfl rfl (fun _ => Qt.mv rfl) ?_
  refine RLG.q rfl rfl rfl (fun _ => Qt.nil rfl) ?_
  refine RLG.q rfl rfl rfl (fun _ => Qt.fld rfl) ?_
  refine RLG.q rfl rfl rfl (fun hg => by (try simp only [Option.isSome_some] at hg); exact Qt.ld rfl (by exact hS.at 0 rfl) (by first  | rfl)) ?_
  refine RLG.q rfl rfl rfl (fun _ => Qt.lenS rfl) ?_
  refine RLG.q rfl rfl rfl (fun hg => by (try simp only [Option.isSome_some] at hg); exact Qt.lss rfl rfl) ?_
  refine RLG.and rfl rfl ?_
  refine RL.nil ?_
  refine RE.sqN ?_
  refine RC.cond rfl (fun h => ?_) (fun h => ?_)
  · skip
    have hlt : k < l.length := by simpa using h
    have hS0 := hS
    obtain ⟨bs, cap', c, hv, hc1, hc2, hc3, hc4, hS⟩ := hS.ownPos 1 rfl (by omega)
    cases hv
    refine RC.skip ?_
    refine RE.sqN ?_
    refine RC.seq ?_
    refine RC.block ?_
    refine RC.seq ?_
    refine RC.region rfl ?_
    refine RL.q (Qt.mv rfl) ?_
    refine RL.q (Qt.nil rfl) ?_
    refine RL.q (Qt.fld rfl) ?_
    refine RL.q (Qt.ld rfl (by exact hS.at 0 rfl) (by rfl)) ?_
    refine RL.q (Qt.mv rfl) ?_
    refine RL.q (Qt.ixS rfl rfl (by omega) (by omega)) ?_
    refine RL.q (Qt.fld rfl) ?_
    refine RL.q (Qt.ld rfl (by exact hS.at 1 rfl) (by exact row_cell (f := KItem.cells) (fun _ => rfl) hc4 rfl hlt (j := 0) (by decide) rfl (by omega))) ?_
    refine RL.q (Qt.mv rfl) ?_
    refine RL.q (Qt.eql rfl rfl) ?_
    refine RL.nil ?_
    refine RE.sqN ?_
    have hd : l.drop k = l[k] :: l.drop (k + 1) := List.drop_eq_getElem_cons hlt
    rw [hd, List.map_cons] at hrat
    refine RC.cond rfl (fun h2 => ?_) (fun h2 => ?_)
    · refine RC.seq ?_
      refine RC.region rfl ?_
      refine RL.q (Qt.mv rfl) ?_
      refine RL.q (Qt.as rfl) ?_
      refine RL.nil ?_
      refine RE.sqN ?_
      refine RC.ret ?_
      refine RE.bkR ?_
      refine RE.sqR ?_
      refine RE.lpR ?_
      refine RE.bkR ?_
      refine RE.sqR ?_
      have h3 : l[k].id = id := of_decide_eq_true h2
      refine RE.retB rfl ⟨?_, rfl⟩ (rsO_shut hl hS0)
      simp only [ixFrom, h3, if_true] at hrat
      rw [← hrat]; rfl
    · refine RC.skip ?_
      refine RE.bkN ?_
      refine RE.sqN ?_
      refine RC.region rfl ?_
      refine RL.q (Qt.mv rfl) ?_
      refine RL.q ((by exact Qt.addI rfl rfl (by dsimp only [inK]; omega))) ?_
      refine RL.q (Qt.as rfl) ?_
      refine RL.nil ?_
      have h3 : ¬ l[k].id = id := of_decide_eq_false h2
      simp only [ixFrom, h3, if_false] at hrat
      apply RE.lpN (k + 1)
      case hI => exact ⟨rfl, rfl, by omega, hrat⟩
      case hs => (repeat (first | exact Sub.nil | refine Sub.cons rfl ?_))
      case hm =>
        show l.length - (k + 1) < l.length - k
        omega
  · refine RC.exit ?_
    refine RE.sqX ?_
    refine RE.lpX ?_
    refine RE.bkX ?_
    refine RE.sqN ?_
    refine RC.seq ?_
    refine RC.region rfl ?_
    refine RL.q (Qt.as rfl) ?_
    refine RL.nil ?_
    refine RE.sqN ?_
    refine RC.ret ?_
    have hge : k = l.length := by
      have : ¬ k < l.length := by simpa using h
      omega
    subst hge
    simp only [List.drop_length, List.map_nil, ixFrom] at hrat
    exact RE.retB rfl ⟨by rw [← hrat]; rfl, rfl⟩ (rsO_shut hl hS)

set_option maxHeartbeats 1000000 in
theorem rsOut (p : Value) (n : Nat) (most : Int) (l : List KItem) (a : Int) (h0 : 0 ≤ a) (h1 : a < l.length) : Ct Try.prog 93 #[p, .int .i64 a] [rsO p n most l] (fun v ps => v = .tuple #[] ∧ ps = [rsO p n most (l.eraseIdx a.toNat)]) := by
  refine Ct.enter Try.func93 rfl (Nat.le_of_ble_eq_true rfl) ?_
  intro oo w R hS
  change RC _ _ _ _ _ _ [(0, _), (1, _)] _
  obtain ⟨b, sp, cap, rfl, hl, hS⟩ := rsO_open hS
  obtain ⟨bs, cap', c, hv, hc1, hc2, hc3, hc4, hS⟩ := hS.ownPos 1 rfl (by omega)
  cases hv
  have hS := hS.nilOwn (T := 133) (sz := 4)
  simp only [List.set_cons_zero, List.set_cons_succ] at hS
  refine RC.seq ?_
  refine RC.region rfl ?_
  refine RL.q (Qt.as rfl) ?_
  refine RL.nil ?_
  refine RE.sqN ?_
  refine RC.seq ?_
  refine RC.drawn 15 [0, 1, 2, 3, 4, 5, 6, 8, 9, 10, 11, 12, 13, 14, 7] (fun w' => w'.heap[b]? = some (.cells #[.int .i64 n, .int .i64 most, .slice (some ⟨bs, 0, none⟩) l.length cap] 107 (0, 0))) (by kernel_rfl) (by kernel_rfl) (hS.drew.get 1 rfl) (fun hh => ?_)
  replace hS := hS.drew
  refine RH.q hh (Calm.sq Calm.body) rfl (by kernel_rfl) (Qt.mv rfl) ?_
  refine RH.q hh (Calm.sq Calm.body) rfl (by kernel_rfl) (Qt.mv rfl) ?_
  refine RH.q hh (Calm.sq Calm.body) rfl (by kernel_rfl) (Qt.nil rfl) ?_
  refine RH.q hh (Calm.sq Calm.body) rfl (by kernel_rfl) (Qt.fld rfl) ?_
  refine RH.q hh (Calm.sq Calm.body) rfl (by kernel_rfl) (Qt.ld rfl (fun _ h => h) (by first  | rfl)) ?_
  refine RH.q hh (Calm.sq Calm.body) rfl (by kernel_rfl) (Qt.mv rfl) ?_
  refine RH.q hh (Calm.sq Calm.body) rfl (by kernel_rfl) (Qt.slHi rfl rfl (by assumption) (by omega)) ?_
  refine RH.q hh (Calm.sq Calm.body) rfl (by kernel_rfl) (Qt.mv rfl) ?_
  refine RH.q hh (Calm.sq Calm.body) rfl (by kernel_rfl) (Qt.nil rfl) ?_
  refine RH.q hh (Calm.sq Calm.body) rfl (by kernel_rfl) (Qt.fld rfl) ?_
  refine RH.q hh (Calm.sq Calm.body) rfl (by kernel_rfl) (Qt.ld rfl (fun _ h => h) (by first  | rfl)) ?_
  refine RH.q hh (Calm.sq Calm.body) rfl (by kernel_rfl) (Qt.mv rfl) ?_
  refine RH.q hh (Calm.sq Calm.body) rfl (by kernel_rfl) ((by exact Qt.addI rfl rfl (by dsimp only [inK]; omega))) ?_
  refine RH.q hh (Calm.sq Calm.body) rfl (by kernel_rfl) (Qt.slLo rfl rfl (by omega) (by assumption)) ?_
  refine RH.e hh rfl (by kernel_rfl) (Ef.app (k := 0) hS rfl rfl rfl (by exact Src.rowsTake (fun _ => rfl) (hS.get 2 rfl) hc1 hc2 hc4 (by omega)) (by omega) (by exact rs_plain _)) ?_
  intro s12 w hS
  simp only [List.set_cons_zero] at hS
  (obtain ⟨sp12, cp12, rfl⟩ := hS.ownForm 0 rfl)
  refine ⟨hS.get 1 rfl, ?_⟩
  refine RH.done hh (by kernel_rfl) ?_
  refine RL.e (Ef.app (k := 0) hS rfl rfl rfl (by exact Src.rowsDrop (k := (a + 1).toNat) (fun _ => rfl) (hS.get 2 rfl) hc1 hc2 hc4 (by omega) rfl (by split <;> omega)) (by omega) (by exact rs_plain _)) ?_
  intro s20 w hS
  simp only [List.set_cons_zero] at hS
  (obtain ⟨sp20, cp20, rfl⟩ := hS.ownForm 0 rfl)
  refine RL.q (Qt.as rfl) ?_
  refine RL.nil ?_
  refine RE.sqN ?_
  refine RC.region rfl ?_
  refine RL.q (Qt.mv rfl) ?_
  refine RL.q (Qt.mv rfl) ?_
  refine RL.q (Qt.nil rfl) ?_
  refine RL.q (Qt.fld rfl) ?_
  refine RL.e0 (Ef.st hS 1 rfl rfl rfl (by rfl) (by rfl) (by exact Nat.le_of_ble_eq_true rfl)) ?_
  intro _ w hS
  simp (disch := omega) only [List.set_cons_zero, List.set_cons_succ, cells_slice', Nat.zero_add, wr, List.setIfInBounds_toArray] at hS
  refine RL.nil ?_
  have hk : a.toNat < l.length := by omega
  have e1 : a.toNat + (l.length - (a + 1).toNat) = (l.eraseIdx a.toNat).length := by rw [List.length_eraseIdx, if_pos hk]; omega
  have e2 : [] ++ (l.take a.toNat).flatMap KItem.cells ++ (l.drop (a + 1).toNat).flatMap KItem.cells = (l.eraseIdx a.toNat).flatMap KItem.cells := by
    rw [List.eraseIdx_eq_take_drop_succ, List.flatMap_append, show (a + 1).toNat = a.toNat + 1 by omega]; simp
  rw [e1, e2] at hS
  refine RE.endB rfl ⟨rfl, rfl⟩ (rsO_shut (by rw [← e1]; omega) (hS.pick [1, 0, 3] (by decide) rfl))

set_option maxHeartbeats 1000000 in
theorem rsList (p : Value) (n : Nat) (most : Int) (l : List KItem) : Ct Try.prog 73 #[p] [rsO p n most l] (fun v ps => ps = [ownI v (l.map KItem.id), rsO p n most l]) := by
  refine Ct.enter Try.func73 rfl (Nat.le_of_ble_eq_true rfl) ?_
  intro oo w R hS
  change RC _ _ _ _ _ _ [(0, _)] _
  obtain ⟨b, sp, cap, rfl, hl, hS⟩ := rsO_open hS
  have hS := hS.nilOwn (T := 3) (sz := 1)
  refine RC.seq ?_
  refine RC.region rfl ?_
  refine RL.q (Qt.as rfl) ?_
  refine RL.nil ?_
  refine RE.sqN ?_
  refine RC.seq ?_
  refine RC.region rfl ?_
  refine RL.q (Qt.as rfl) ?_
  refine RL.nil ?_
  refine RE.sqN ?_
  refine RC.seq ?_
  refine RC.seq ?_
  refine RC.region rfl ?_
  refine RL.q (Qt.as rfl) ?_
  refine RL.nil ?_
  refine RE.sqN ?_
  refine RC.block ?_
  refine RC.loop (γ := Nat × Value) (fun g E w' => E = [(4, .int .i64 g.1), (3, g.2), (0, .pointer (some ⟨b, 0, none⟩))] ∧ g.1 ≤ l.length ∧ Sat oo w' [ownI g.2 ((l.take g.1).map KItem.id), pt b (.cells #[.int .i64 n, .int .i64 most, .slice sp l.length cap] 107 (0, 0)), own (.slice sp l.length cap) 133 4 l.length (l.flatMap KItem.cells), R]) (fun g => l.length - g.1) (0, .slice none 0 0) _ (by (repeat (first | exact Sub.nil | refine Sub.cons rfl ?_))) ⟨rfl, by simp, hS⟩ ?_
  clear hS
  rintro ⟨k, v⟩ E w ⟨rfl, hk, hS⟩
  dsimp only at hk hS
  refine RC.seq ?_
  refine RC.seq ?_
  refine RC.region rfl ?_
  refine RL.q (Qt.mv rfl) ?_
  refine RL.q (Qt.neqN rfl rfl) ?_
  refine RL.q (Qt.mv rfl) ?_
  refine RLG.start 7 true rfl ?_
  refine RLG.q rfl rfl rfl (fun _ => Qt.mv rfl) ?_
  refine RLG.q rfl rfl rfl (fun _ => Qt.mv rfl) ?_
  refine RLG.q rfl rfl rfl (fun _ => Qt.nil rfl) ?_
  refine RLG.q rfl rfl rfl (fun _ => Qt.fld rfl) ?_
  refine RLG.q rfl rfl rfl (fun hg => by (try simp only [Option.isSome_some] at hg); exact Qt.ld rfl (by exact hS.at 1 rfl) (by first  | rfl)) ?_
  refine RLG.q rfl rfl rfl (fun _ => Qt.lenS rfl) ?_
  refine RLG.q rfl rfl rfl (fun hg => by (try simp only [Option.isSome_some] at hg); exact Qt.lss rfl rfl) ?_
  refine RLG.and rfl rfl ?_
  refine RL.nil ?_
  refine RE.sqN ?_
  refine RC.cond rfl (fun h => ?_) (fun h => ?_)
  · skip
    have hlt : k < l.length := by simpa using h
    have htk : (l.take (k + 1)).map KItem.id = (l.take k).map KItem.id ++ [l[k].id] := by rw [List.take_succ_eq_append_getElem hlt, List.map_append]; rfl
    have hkl : ((l.take k).map KItem.id).length = k := by simp; omega
    obtain ⟨bs, cap', c, hv, hc1, hc2, hc3, hc4, hS⟩ := hS.ownPos 2 rfl (by omega)
    cases hv
    refine RC.skip ?_
    refine RE.sqN ?_
    refine RC.seq ?_
    refine RC.block ?_
    refine RC.region rfl ?_
    refine RL.q (Qt.mv rfl) ?_
    refine RL.q (Qt.mv rfl) ?_
    refine RL.q (Qt.nil rfl) ?_
    refine RL.q (Qt.fld rfl) ?_
    refine RL.q (Qt.ld rfl (by exact hS.at 1 rfl) (by rfl)) ?_
    refine RL.q (Qt.mv rfl) ?_
    refine RL.q (Qt.ixS rfl rfl (by omega) (by omega)) ?_
    refine RL.q (Qt.fld rfl) ?_
    refine RL.q (Qt.ld rfl (by exact hS.at 2 rfl) (by exact row_cell (f := KItem.cells) (fun _ => rfl) hc4 rfl hlt (j := 0) (by decide) rfl (by omega))) ?_
    refine RL.e (Ef.bsl1 hS rfl) ?_
    rintro _ w ⟨b27, rfl, hS⟩
    try simp (disch := omega) only [List.set_cons_zero, List.set_cons_succ, cells_int'] at hS
    refine RL.e (Ef.app (k := 1) hS rfl rfl rfl (Src.pt (hS.get 0 rfl) (by exact Nat.le_of_ble_eq_true rfl)) (by omega) (by rfl)) ?_
    intro s28 w hS
    simp only [List.set_cons_zero, List.set_cons_succ, List.drop_zero] at hS
    (obtain ⟨sp28, cp28, rfl⟩ := hS.ownForm 1 rfl)
    refine RL.q (Qt.as rfl) ?_
    refine RL.nil ?_
    refine RE.bkN ?_
    refine RE.sqN ?_
    refine RC.region rfl ?_
    refine RL.q (Qt.mv rfl) ?_
    refine RL.q ((by exact Qt.addI rfl rfl (by dsimp only [inK]; omega))) ?_
    refine RL.q (Qt.as rfl) ?_
    refine RL.nil ?_
    have hS := hS.pick [1, 2, 3, 4] (by decide) rfl
    have hS := hS.ownMk (cap := cap) (n := l.length) (sz := 4) (cs := l.flatMap KItem.cells) 2 rfl hc1 hc2 hc3 hc4
    apply RE.lpN ((k + 1, .slice sp28 (((l.take k).map KItem.id).length + 1) cp28))
    case hI =>
      refine ⟨rfl, hlt, ?_⟩
      dsimp only
      unfold ownI
      rw [htk, List.length_append, List.length_singleton, ints, List.map_append]
      exact hS
    case hs => (repeat (first | exact Sub.nil | refine Sub.cons rfl ?_))
    case hm =>
      show l.length - (k + 1) < l.length - k
      omega
  · refine RC.exit ?_
    refine RE.sqX ?_
    refine RE.lpX ?_
    refine RE.bkX ?_
    refine RE.sqN ?_
    refine RC.seq ?_
    refine RC.region rfl ?_
    refine RL.q (Qt.mv rfl) ?_
    refine RL.q (Qt.as rfl) ?_
    refine RL.nil ?_
    refine RE.sqN ?_
    refine RC.ret ?_
    have hge : k = l.length := by
      have : ¬ k < l.length := by simpa using h
      omega
    subst hge
    rw [List.take_length] at hS
    refine RE.retB rfl (ps := [ownI v (l.map KItem.id), rsO _ n most l]) rfl ?_
    exact (rsO_shut hl (hS.pick [1, 2, 0, 3] (by decide) rfl)).pick [1, 0, 2] (by decide) rfl

set_option maxHeartbeats 1000000 in
theorem rsLen (p : Value) (n : Nat) (most : Int) (l : List KItem) : Ct Try.prog 46 #[p] [rsO p n most l] (fun v ps => v = .int .i64 l.length ∧ ps = [rsO p n most l]) := by
  refine Ct.enter Try.func46 rfl (Nat.le_of_ble_eq_true rfl) ?_
  intro oo w R hS
  change RC _ _ _ _ _ _ [(0, _)] _
  obtain ⟨b, sp, cap, rfl, hl, hS⟩ := rsO_open hS
  refine RC.seq ?_
  refine RC.region rfl ?_
  refine RL.q (Qt.as rfl) ?_
  refine RL.nil ?_
  refine RE.sqN ?_
  refine RC.seq ?_
  refine RC.seq ?_
  refine RC.region rfl ?_
  refine RL.q (Qt.mv rfl) ?_
  refine RL.q (Qt.eqlN rfl rfl) ?_
  refine RL.nil ?_
  refine RE.sqN ?_
  refine RC.condF rfl (rfl) ?_
  refine RC.skip ?_
  refine RE.sqN ?_
  refine RC.seq ?_
  refine RC.region rfl ?_
  refine RL.q (Qt.mv rfl) ?_
  refine RL.q (Qt.nil rfl) ?_
  refine RL.q (Qt.fld rfl) ?_
  refine RL.q (Qt.ld rfl (by exact hS.at 0 rfl) (by first  | rfl)) ?_
  refine RL.q (Qt.lenS rfl) ?_
  refine RL.q (Qt.as rfl) ?_
  refine RL.nil ?_
  refine RE.sqN ?_
  refine RC.ret ?_
  exact RE.retB rfl ⟨rfl, rfl⟩ (rsO_shut hl hS)

set_option maxHeartbeats 1000000 in
theorem rsFork (p : Value) (n : Nat) (most : Int) (l : List KItem) : Ct Try.prog 48 #[p] [rsO p n most l] (fun v ps => (∃ b, v = .pointer (some ⟨b, 0, none⟩)) ∧ ps = [rsO p n most l, rsO v n most l]) := by
  refine Ct.enter Try.func48 rfl (Nat.le_of_ble_eq_true rfl) ?_
  intro oo w R hS
  change RC _ _ _ _ _ _ [(0, _)] _
  obtain ⟨b, sp, cap, rfl, hl, hS⟩ := rsO_open hS
  refine RC.seq ?_
  refine RC.region rfl ?_
  refine RL.q (Qt.as rfl) ?_
  refine RL.nil ?_
  refine RE.sqN ?_
  refine RC.seq ?_
  refine RC.seq ?_
  refine RC.region rfl ?_
  refine RL.q (Qt.mv rfl) ?_
  refine RL.q (Qt.eqlN rfl rfl) ?_
  refine RL.nil ?_
  refine RE.sqN ?_
  refine RC.condF rfl (rfl) ?_
  refine RC.skip ?_
  refine RE.sqN ?_
  refine RC.seq ?_
  refine RC.drawn 14 [0, 1, 2, 3, 4, 5, 6, 7, 9, 10, 11, 12, 8, 13] (fun w' => w'.heap[b]? = some (.cells #[.int .i64 n, .int .i64 most, .slice sp l.length cap] 107 (0, 0))) (by kernel_rfl) (by kernel_rfl) (hS.drew.get 0 rfl) (fun hh => ?_)
  replace hS := hS.drew
  refine RH.q hh (Calm.sq Calm.body) rfl (by kernel_rfl) (Qt.mv rfl) ?_
  refine RH.q hh (Calm.sq Calm.body) rfl (by kernel_rfl) (Qt.nil rfl) ?_
  refine RH.q hh (Calm.sq Calm.body) rfl (by kernel_rfl) (Qt.fld rfl) ?_
  refine RH.q hh (Calm.sq Calm.body) rfl (by kernel_rfl) (Qt.ld rfl (fun _ h => h) (by first  | rfl)) ?_
  refine RH.q hh (Calm.sq Calm.body) rfl (by kernel_rfl) (Qt.mv rfl) ?_
  refine RH.q hh (Calm.sq Calm.body) rfl (by kernel_rfl) (Qt.nil rfl) ?_
  refine RH.q hh (Calm.sq Calm.body) rfl (by kernel_rfl) (Qt.fld rfl) ?_
  refine RH.q hh (Calm.sq Calm.body) rfl (by kernel_rfl) (Qt.ld rfl (fun _ h => h) (by first  | rfl)) ?_
  refine RH.q hh (Calm.sq Calm.body) rfl (by kernel_rfl) (Qt.mv rfl) ?_
  refine RH.q hh (Calm.sq Calm.body) rfl (by kernel_rfl) (Qt.nil rfl) ?_
  refine RH.q hh (Calm.sq Calm.body) rfl (by kernel_rfl) (Qt.fld rfl) ?_
  refine RH.q hh (Calm.sq Calm.body) rfl (by kernel_rfl) (Qt.ld rfl (fun _ h => h) (by first  | rfl)) ?_
  refine RH.e hh rfl (by kernel_rfl) (Ef.bsl0 hS) ?_
  rintro _ w ⟨b13, rfl, hS⟩
  try simp (disch := omega) only [List.set_cons_zero, List.set_cons_succ, cells_int, cells_bool, cells_ptr, cells_slice, cells_func, cells_agg, cells_map, cells_int', cells_bool', cells_ptr', cells_slice', cells_agg', cells_map', cells_func', Nat.zero_add, wr, List.setIfInBounds_toArray] at hS
  refine ⟨hS.get 1 rfl, ?_⟩
  refine RH.e hh rfl (by kernel_rfl) (Ef.app (k := 0) hS rfl rfl rfl (by exact Src.own hS 2 rfl) (by omega) (rs_plain _)) ?_
  intro s18 w hS
  simp only [List.set_cons_zero] at hS
  (obtain ⟨sp18, cp18, rfl⟩ := hS.ownForm 0 rfl)
  refine ⟨hS.get 1 rfl, ?_⟩
  refine RH.done hh (by kernel_rfl) ?_
  refine RL.q (Qt.bldV [.tmp 8, .tmp 12, .tmp 18] rfl rfl (by kernel_rfl)) ?_
  refine RL.e (Ef.box hS rfl) ?_
  rintro _ w ⟨b20, rfl, hS⟩
  try simp (disch := omega) only [cells_agg', Nat.zero_add] at hS
  refine RL.q (Qt.as rfl) ?_
  refine RL.nil ?_
  refine RE.sqN ?_
  refine RC.ret ?_
  refine RE.retB rfl ⟨⟨_, rfl⟩, rfl⟩ ?_
  simp only [List.nil_append] at hS
  have h1 := rsO_shut hl (hS.pick [0, 1, 2, 3, 4] (by decide) rfl)
  exact rsO_shut hl (h1.pick [1, 2, 0, 3] (by decide) rfl)
end Go.Proofs

/- More of the engine: results that lie in cells, beside others; equality of structs of numbers and booleans. Nothing of any program stands here. -/
namespace Go.Gx
open Go

section
variable {P : Program} {N : Nat} {oo : World} {w : World} {E : Env} {L : List HP}

/-- What a function's results come to at a return. -/
inductive ResW (P : Program) (w : World) (E : Env) : List ResultVar → List Value → Prop where
  | nil : ResW P w E [] []
  | tmp {t : Nat} {v : Value} {rs : List ResultVar} {vs : List Value} (h : look E t = some v) (g : ResW P w E rs vs) : ResW P w E (.tmp t :: rs) (v :: vs)
  | cell {r t b off n : Nat} {d : TypeDesc} {c cs : Array Value} {T : TypeId} {z : Nat × Nat} {rs : List ResultVar} {vs : List Value} (ht : TI P t d n) (hd : aggB d = true) (hl : look E r = some (.pointer (some ⟨b, off, none⟩)))
      (hk : w.heap[b]? = some (.cells c T z)) (hv : c.extract off (off + n) = cs) (hle : off + n ≤ c.size) (g : ResW P w E rs vs) : ResW P w E (.cell r t :: rs) (.agg cs :: vs)

theorem run_resW {a : Act} (ha : Knows a E) {rs : List ResultVar} {vs : List Value} (h : ResW P w E rs vs) (F : ResultVar → Sem Value) (hF : ∀ t, F (.tmp t) = pure (a.tmps.getD t undef)) (hC : ∀ r t, F (.cell r t) = (do loadVar t (← asAddr (a.tmps.getD r undef)))) :
    (rs.mapM F).run P w = .ok vs w := by
  induction h with
  | nil => simp
  | tmp h g ih =>
    rw [List.mapM_cons, hF]
    have h1 := ha _ _ h
    simp only [Sem.run_bind, Sem.run_pure, Result.andThen_ok, ih, h1]
  | @cell r t b off n d c cs T z rs vs ht hd hl hk hv hle g ih =>
    rw [List.mapM_cons, hC]
    have h1 := run_loadCellsFrom (P := P) hk off n 0 #[] (by omega)
    simp only [Nat.add_zero, Array.empty_append, hv] at h1
    have h2 := ha r _ hl
    have h3 : (loadVar t ⟨b, off, none⟩).run P w = .ok (.agg cs) w := by
      simp [loadVar, run_isAgg ht, hd, run_sizeOf ht, loadCells, h1]
    have h4 : (asAddr (a.tmps.getD r undef)).run P w = .ok ⟨b, off, none⟩ w := by rw [h2]; simp [asAddr]
    simp only [Sem.run_bind, h4, Result.andThen_ok, h3, ih, Sem.run_pure]

theorem run_resultsW {fn : Func} {a : Act} (ha : Knows a E) {vs : List Value} (h : ResW P w E fn.results.toList vs) : (results fn a.tmps).run P w = .ok (oneOf vs) w := by
  unfold results
  rw [Array.mapM_eq_mapM_toList, Sem.run_bind, Sem.run_map, run_resW ha h _ (fun _ => rfl) (fun _ _ => rfl)]
  simp only [Result.andThen_ok, Sem.run_pure]
  congr 1
  match vs with
  | [] => simp [oneOf]
  | [v] => simp [oneOf]
  | v :: u :: vs => simp [oneOf]

theorem RE.retW {fn : Func} {post : Value → List HP → Prop} {R : HP} {vs : List Value} {ps : List HP} (hr : ResW P w E fn.results.toList vs) (hp : post (oneOf vs) ps) (hS : Sat oo w (ps ++ [R])) : RE N [] (bodyP P fn (endR oo post R)) .ret E w := fun a ha => by
  show LeavesInM _ _ _ _ _ _ a.defers _ _
  rw [ha.defers]
  exact ⟨_, run_resultsW ha.knows hr, _, _, rfl, hp, hS⟩
end

section
variable {P : Program} {S : World → Prop} {E : Env} {dst : Option Nat} {ty : TypeId} {pos : String} {af : Array Edge} {g : Option (Nat × Bool)}

/-- Fields of a struct, each a number or a boolean, that are the same. -/
inductive FEq (P : Program) (xs ys : Array Value) : List Field → Bool → Prop where
  | nil : FEq P xs ys [] true
  | int {f : Field} {fs : List Field} {k : IntKind} {a b : Int} {r : Bool} (hn : f.name ≠ "_") (ht : TI P f.type (.int k) 1) (hx : xs[f.offset]? = some (.int k a)) (hy : ys[f.offset]? = some (.int k b)) (h : FEq P xs ys fs r) : FEq P xs ys (f :: fs) (decide (a = b) && r)
  | bool {f : Field} {fs : List Field} {a b : Bool} {r : Bool} (hn : f.name ≠ "_") (ht : TI P f.type .bool 1) (hx : xs[f.offset]? = some (.bool a)) (hy : ys[f.offset]? = some (.bool b)) (h : FEq P xs ys fs r) : FEq P xs ys (f :: fs) (a == b && r)

theorem run_FEq {xs ys : Array Value} {d : Nat} {w : World} {fs : List Field} {r : Bool} (h : FEq P xs ys fs r) : (Op.eqFields (d + 1) xs ys fs).run P w = .ok r w := by
  induction h with
  | nil => simp [Op.eqFields]
  | @int f fs k a b r hn ht hx hy h ih =>
    have px : (part f.type xs f.offset).run P w = .ok (.int k a) w := by simp [part, run_isAgg ht, aggB, hx]
    have py : (part f.type ys f.offset).run P w = .ok (.int k b) w := by simp [part, run_isAgg ht, aggB, hy]
    have pe := run_equalIn_int w d f.type k k a b ht.u
    simp only [Op.eqFields, if_pos hn, Sem.run_bind, px, py, pe, Result.andThen_ok]
    rw [show (a == b) = decide (a = b) by rw [Bool.eq_iff_iff]; simp]
    cases hb : decide (a = b)
    · simp
    · simp only [Bool.not_true, Bool.false_eq_true, if_false, Bool.true_and]; exact ih
  | @bool f fs a b r hn ht hx hy h ih =>
    have px : (part f.type xs f.offset).run P w = .ok (.bool a) w := by simp [part, run_isAgg ht, aggB, hx]
    have py : (part f.type ys f.offset).run P w = .ok (.bool b) w := by simp [part, run_isAgg ht, aggB, hy]
    have pe := run_equalIn_bool' w d f.type a b ht.u
    simp only [Op.eqFields, if_pos hn, Sem.run_bind, px, py, pe, Result.andThen_ok]
    cases hb : a == b
    · simp
    · simp only [Bool.not_true, Bool.false_eq_true, if_false, Bool.true_and]; exact ih

theorem equal_struct {t : Nat} {fs : Array Field} {xs ys : Array Value} {r : Bool} (hu : P.underlying t = some (.struct fs)) (hs : P.stoodInHeld t = false) (h : FEq P xs ys fs.toList r) (w : World) : (Op.equalIn 10000 t (.agg xs) (.agg ys)).run P w = .ok r w := by
  have e : P.fieldsOf t = fs := by simp [Program.fieldsOf, hu]
  rw [show (10000 : Nat) = 9998 + 1 + 1 from rfl, run_equalIn_struct w (9998 + 1) t xs ys (by rw [e]; exact hu) hs, e]
  exact run_FEq h

theorem Qt.slLo0 {x i : Operand} {t n e l c : Nat} {p : Option Addr} {k : IntKind} {ne : Nat} {de : TypeDesc} [ht : TI P t (.slice e) n] [he : TI P e de ne] (hx : ev E x = some (.slice p l c)) (hi : ev E i = some (.int k 0)) :
    Qt P S E ⟨dst, .slice t x (some i) none none, ty, pos, af, g⟩ (.slice p l c) := fun a ha w _ => by
  simp [execOp, ha.ev hx, ha.ev hi, Instr.sliceAt, Instr.slice, run_underlying ht, Instr.sliceBounds, Instr.sliceBound, asIntOf, run_sizeOf he]
  by_cases hc : c = 0
  · simp [hc]
  · cases p <;> simp [hc, Addr.add]

theorem Qt.eqlT {x y : Operand} {t t' : Nat} {xs ys : Array Value} {r : Bool} (hx : ev E x = some (.agg xs)) (hy : ev E y = some (.agg ys)) (he : ∀ w, (Op.equalIn 10000 t (.agg xs) (.agg ys)).run P w = .ok r w) (hg : P.eqGuardType P.depth t = false := by kernel_rfl) :
    Qt P S E ⟨dst, .binOp .eql t x y t', ty, pos, af, g⟩ (.bool r) := fun a ha w _ => by
  simp [execOp, ha.ev hx, ha.ev hy, binOp, eqGuard, Op.equal, Op.maxDepth, he, hg]
theorem Qt.neqT {x y : Operand} {t t' : Nat} {xs ys : Array Value} {r : Bool} (hx : ev E x = some (.agg xs)) (hy : ev E y = some (.agg ys)) (he : ∀ w, (Op.equalIn 10000 t (.agg xs) (.agg ys)).run P w = .ok r w) (hg : P.eqGuardType P.depth t = false := by kernel_rfl) :
    Qt P S E ⟨dst, .binOp .neq t x y t', ty, pos, af, g⟩ (.bool (!r)) := fun a ha w _ => by
  simp [execOp, ha.ev hx, ha.ev hy, binOp, eqGuard, Op.equal, Op.maxDepth, he, hg]
end

/-- Some cells of a row that a slice owns. -/
theorem row_part {α : Type} {f : α → List Value} {sz : Nat} {c : Array Value} {l : List α} {m : Nat} (hf : ∀ x, (f x).length = sz) (h : c.toList.take m = l.flatMap f) (hm : m = l.length * sz) (hs : m ≤ c.size) {i : Nat} (hi : i < l.length) {a n k k' : Nat} {vs : Array Value} (hv : (f l[i]).toArray.extract a (a + n) = vs) (ha : a + n ≤ sz) (hk : k = i * sz + a) (hk' : k' = k + n) : c.extract k k' = vs := by
  subst hk'; subst hk; subst hv
  have hle : i * sz + sz ≤ l.length * sz := by rw [← Nat.succ_mul]; exact Nat.mul_le_mul_right _ hi
  apply Array.ext'
  apply List.ext_getElem?
  intro j
  simp only [Array.toList_extract, List.extract_eq_take_drop]
  rw [List.getElem?_take, List.getElem?_drop, List.getElem?_take, List.getElem?_drop, show i * sz + a + n - (i * sz + a) = n by omega, show a + n - a = n by omega]
  by_cases hj : j < n
  · rw [if_pos hj, if_pos hj, Array.getElem?_toList, Nat.add_assoc, own_cell h (by omega), rows_cell f sz hf l i (a + j) hi (by omega)]
  · rw [if_neg hj, if_neg hj]

section
variable {ρ : Option Nat} {P : Program} {N : Nat} {D : List Deferred} {Q : Exit → Act → World → Prop}
/-- Two operations of the head that may go in either order, and come to the same. -/
theorem RH.pair {lo : List Oper} {S : World → Prop} {n i j : Nat} {tl : List Oper} {l : List Nat} {E : Env} {w : World} {di dj : Nat} {oi oj : Op} {tyi tyj : TypeId} {pi pj : String} {ai aj : Array Edge}
    (Z : Value → Value → World → Prop)
    (hh : Head N lo.toArray n tl) (hoi : lo[i]? = some ⟨some di, oi, tyi, pi, ai, none⟩) (hoj : lo[j]? = some ⟨some dj, oj, tyj, pj, aj, none⟩) (hb : step2 lo.toArray n i j l = true) (hne : Nat.beq di dj = false)
    (h1 : ∃ R, Ef P N D E w ⟨some di, oi, tyi, pi, ai, none⟩ R ∧ ∀ v w1, R v w1 → S w1 ∧ ∃ R2, Ef P N D ((di, v) :: E) w1 ⟨some dj, oj, tyj, pj, aj, none⟩ R2 ∧ ∀ u w2, R2 u w2 → Z v u w2)
    (h2 : ∃ R, Ef P N D E w ⟨some dj, oj, tyj, pj, aj, none⟩ R ∧ ∀ u w1, R u w1 → S w1 ∧ ∃ R2, Ef P N D ((dj, u) :: E) w1 ⟨some di, oi, tyi, pi, ai, none⟩ R2 ∧ ∀ v w2, R2 v w2 → Z v u w2)
    (h : ∀ v u w', Z v u w' → S w' ∧ RH ρ P N D lo.toArray Q S n tl l ((dj, u) :: (di, v) :: E) w') :
    RH ρ P N D lo.toArray Q S n tl (i :: j :: l) E w := fun _ a ha listed hl inv => by
  subst hl
  have hoi : lo.toArray[i]? = some ⟨some di, oi, tyi, pi, ai, none⟩ := by simpa using hoi
  have hoj : lo.toArray[j]? = some ⟨some dj, oj, tyj, pj, aj, none⟩ := by simpa using hoj
  simp only [step2, Bool.and_eq_true, decide_eq_true_eq] at hb
  obtain ⟨⟨⟨⟨⟨⟨hin, hjn⟩, hr0⟩, hr1⟩, hr2⟩, hs1⟩, hs2⟩ := hb
  have hdi : dstOK N ⟨some di, oi, tyi, pi, ai, none⟩ = true := Array.all_eq_true_iff_forall_mem.1 hh.2.1 _ (Array.mem_of_getElem? hoi)
  have hdj : dstOK N ⟨some dj, oj, tyj, pj, aj, none⟩ = true := Array.all_eq_true_iff_forall_mem.1 hh.2.1 _ (Array.mem_of_getElem? hoj)
  have iv1 := inv.set (i := i) (by rw [hr0]; simp) hin
  have iv2 := inv.set (i := j) (by rw [hr0]; simp) hjn
  have iv12 := iv1.set (i := j) (by rw [hr1]; simp) hjn
  rw [hs1] at iv12
  refine ⟨by rw [hr0]; simp, fun k hk => ?_⟩
  rw [hr0] at hk
  simp only [List.mem_cons, List.not_mem_nil, or_false] at hk
  obtain ⟨R1, f1, f2⟩ := h1
  obtain ⟨R2, g1, g2⟩ := h2
  rcases hk with rfl | rfl
  · refine ⟨hin, ?_⟩
    unfold wpOpIn
    simp only [hoi]
    rw [if_pos (Runs.plain (E := E) rfl a ha.knows)]
    refine f1 ρ a ha _ _ ?_
    intro v w1 hR
    obtain ⟨hs, R3, f3, f4⟩ := f2 v w1 hR
    have ha1 := ha.put hdi v
    refine ⟨hs, by rw [hr1]; simp, fun k hk => ?_⟩
    rw [hr1] at hk
    have hkj : k = j := by simpa using hk
    subst hkj
    refine ⟨hjn, ?_⟩
    unfold wpOpIn
    simp only [hoj]
    rw [if_pos (by simp [Region.wanted])]
    refine f3 ρ _ ha1 _ _ ?_
    intro u w2 hR2
    obtain ⟨e1, e2⟩ := h v u w2 (f4 u w2 hR2)
    refine ⟨e1, ?_⟩
    rw [hs1]
    exact e2 e1 _ (ha1.put hdj _) _ rfl iv12
  · refine ⟨hjn, ?_⟩
    unfold wpOpIn
    simp only [hoj]
    rw [if_pos (Runs.plain (E := E) rfl a ha.knows)]
    refine g1 ρ a ha _ _ ?_
    intro u w1 hR
    obtain ⟨hs, R3, f3, f4⟩ := g2 u w1 hR
    have ha1 := ha.put hdj u
    refine ⟨hs, by rw [hr2]; simp, fun k hk => ?_⟩
    rw [hr2] at hk
    have hki : k = i := by simpa using hk
    subst hki
    refine ⟨hin, ?_⟩
    unfold wpOpIn
    simp only [hoi]
    rw [if_pos (by simp [Region.wanted])]
    refine f3 ρ _ ha1 _ _ ?_
    intro v w2 hR2
    obtain ⟨e1, e2⟩ := h v u w2 (f4 v w2 hR2)
    refine ⟨e1, ?_⟩
    rw [hs2]
    exact e2 e1 _ ((ha1.put hdi _).sub (look_swap hne)) _ rfl iv12
end
end Go.Gx

/- The reference's set of layer 10: keys, put, Put, Change, Remove, Take, Top, Key, New. -/
namespace Go.Proofs
open Go Go.Gx
variable {oo : World}

theorem keyEq (k j : KKey) (w : World) : (Op.equalIn 10000 31 (.agg k.cells.toArray) (.agg j.cells.toArray)).run Try.prog w = .ok (decide (k = j)) w := by
  have h := equal_struct (P := Try.prog) (t := 31) (fs := #[⟨"Edf", 4, 0, false, "", "", 0⟩, ⟨"Deadline", 29, 1, false, "", "", 8⟩, ⟨"Level", 5, 2, false, "", "", 16⟩]) (xs := k.cells.toArray) (ys := j.cells.toArray) (by kernel_rfl) (by kernel_rfl) (FEq.bool (by decide) ⟨by kernel_rfl, by kernel_rfl⟩ rfl rfl (FEq.int (k := .u64) (by decide) ⟨by kernel_rfl, by kernel_rfl⟩ rfl rfl (FEq.int (k := .u8) (by decide) ⟨by kernel_rfl, by kernel_rfl⟩ rfl rfl FEq.nil))) w
  rw [h]
  have e : (k.edf == j.edf && (decide (k.dl = j.dl) && (decide (k.lv = j.lv) && true))) = decide (k = j) := by
    obtain ⟨e, d, v⟩ := k; obtain ⟨e', d', v'⟩ := j
    rw [Bool.eq_iff_iff]; simp
  rw [e]

set_option maxHeartbeats 1000000 in
theorem rkAbove (a b : KKey) : Ct Try.prog 30 #[.agg a.cells.toArray, .agg b.cells.toArray] [] (fun v ps => v = .bool (kAbove a b) ∧ ps = []) := by
  refine Ct.enter Try.func30 rfl (Nat.le_of_ble_eq_true rfl) ?_
  intro oo w R hS
  change RC _ _ _ _ _ _ [(0, _), (1, _)] _
  refine RC.seq ?_
  refine RC.region rfl ?_
  refine RL.e (Ef.box hS rfl) ?_
  rintro _ w ⟨b2, rfl, hS⟩
  try simp (disch := omega) only [cells_agg'] at hS
  refine RL.e (Ef.box hS rfl) ?_
  rintro _ w ⟨b3, rfl, hS⟩
  try simp (disch := omega) only [cells_agg'] at hS
  refine RL.q (Qt.as rfl) ?_
  refine RL.nil ?_
  refine RE.sqN ?_
  refine RC.seq ?_
  refine RC.seq ?_
  refine RC.region rfl ?_
  refine RL.q (Qt.fld rfl) ?_
  refine RL.q (Qt.ld rfl (by exact hS.at 1 rfl) (by first  | rfl)) ?_
  refine RL.q (Qt.mv rfl) ?_
  refine RLG.start 7 true rfl ?_
  refine RLG.q rfl rfl rfl (fun _ => Qt.fld rfl) ?_
  refine RLG.q rfl rfl rfl (fun hg => by (try simp only [decide_eq_true_eq, decide_eq_false_iff_not, Bool.or_eq_false_iff, Bool.and_eq_true, Bool.not_eq_true, Bool.not_eq_false, Option.isSome_some, Option.isNone_some] at hg); exact Qt.ld rfl (by exact hS.at 0 rfl) (by first  | rfl)) ?_
  refine RLG.and rfl rfl ?_
  refine RL.nil ?_
  refine RE.sqN ?_
  refine RC.cond rfl (fun h => ?_) (fun h => ?_)
  · refine RC.seq ?_
    refine RC.region rfl ?_
    refine RL.q (Qt.fld rfl) ?_
    refine RL.q (Qt.ld rfl (by exact hS.at 1 rfl) (by first  | rfl)) ?_
    refine RL.q (Qt.fld rfl) ?_
    refine RL.q (Qt.ld rfl (by exact hS.at 0 rfl) (by first  | rfl)) ?_
    refine RL.q (Qt.lss rfl rfl) ?_
    refine RL.q (Qt.as rfl) ?_
    refine RL.nil ?_
    refine RE.sqN ?_
    refine RC.ret ?_
    refine RE.sqR ?_
    have h : (a.edf && b.edf) = true := h
    refine RE.retB rfl ⟨?_, rfl⟩ (hS.pick [2] (by decide) rfl)
    rw [kAbove, if_pos h]; rfl
  · skip
    have h : (a.edf && b.edf) = false := h
    refine RC.skip ?_
    refine RE.sqN ?_
    refine RC.seq ?_
    refine RC.seq ?_
    refine RC.region rfl ?_
    refine RL.q (Qt.fld rfl) ?_
    refine RL.q (Qt.ld rfl (by exact hS.at 1 rfl) (by first  | rfl)) ?_
    refine RL.q (Qt.mv rfl) ?_
    refine RLG.start 18 false rfl ?_
    refine RLG.q rfl rfl rfl (fun _ => Qt.fld rfl) ?_
    refine RLG.q rfl rfl rfl (fun hg => by (try simp only [decide_eq_true_eq, decide_eq_false_iff_not, Bool.or_eq_false_iff, Bool.and_eq_true, Bool.not_eq_true, Bool.not_eq_false, Option.isSome_some, Option.isNone_some] at hg); exact Qt.ld rfl (by exact hS.at 0 rfl) (by first  | rfl)) ?_
    refine RLG.or rfl rfl ?_
    refine RL.nil ?_
    refine RE.sqN ?_
    refine RC.cond rfl (fun h2 => ?_) (fun h2 => ?_)
    · refine RC.seq ?_
      refine RC.region rfl ?_
      refine RL.q (Qt.fld rfl) ?_
      refine RL.q (Qt.ld rfl (by exact hS.at 1 rfl) (by first  | rfl)) ?_
      refine RL.q (Qt.as rfl) ?_
      refine RL.nil ?_
      refine RE.sqN ?_
      refine RC.ret ?_
      refine RE.sqR ?_
      have h2 : (a.edf || b.edf) = true := h2
      refine RE.retB rfl ⟨?_, rfl⟩ (hS.pick [2] (by decide) rfl)
      rw [kAbove, if_neg (by rw [h]; decide), if_pos h2]; rfl
    · refine RC.skip ?_
      refine RE.sqN ?_
      refine RC.seq ?_
      refine RC.region rfl ?_
      refine RL.q (Qt.fld rfl) ?_
      refine RL.q (Qt.ld rfl (by exact hS.at 1 rfl) (by first  | rfl)) ?_
      refine RL.q (Qt.fld rfl) ?_
      refine RL.q (Qt.ld rfl (by exact hS.at 0 rfl) (by first  | rfl)) ?_
      refine RL.q (Qt.gtr rfl rfl) ?_
      refine RL.q (Qt.as rfl) ?_
      refine RL.nil ?_
      refine RE.sqN ?_
      refine RC.ret ?_
      have h2 : (a.edf || b.edf) = false := h2
      refine RE.retB rfl ⟨?_, rfl⟩ (hS.pick [2] (by decide) rfl)
      rw [kAbove, if_neg (by rw [h]; decide), if_neg (by rw [h2]; decide)]; rfl

set_option maxHeartbeats 1000000 in
theorem rkRight (k : KKey) : Ct Try.prog 81 #[.agg k.cells.toArray] [] (fun v ps => v = .bool (kRight k) ∧ ps = []) := by
  refine Ct.enter Try.func81 rfl (Nat.le_of_ble_eq_true rfl) ?_
  intro oo w R hS
  change RC _ _ _ _ _ _ [(0, _)] _
  refine RC.seq ?_
  refine RC.region rfl ?_
  refine RL.e (Ef.box hS rfl) ?_
  rintro _ w ⟨b1, rfl, hS⟩
  try simp (disch := omega) only [cells_agg'] at hS
  refine RL.q (Qt.as rfl) ?_
  refine RL.nil ?_
  refine RE.sqN ?_
  refine RC.seq ?_
  refine RC.seq ?_
  refine RC.region rfl ?_
  refine RL.q (Qt.fld rfl) ?_
  refine RL.q (Qt.ld rfl (by exact hS.at 0 rfl) (by first  | rfl)) ?_
  refine RL.nil ?_
  refine RE.sqN ?_
  refine RC.cond rfl (fun h => ?_) (fun h => ?_)
  · refine RC.seq ?_
    refine RC.region rfl ?_
    refine RL.q (Qt.fld rfl) ?_
    refine RL.q (Qt.ld rfl (by exact hS.at 0 rfl) (by first  | rfl)) ?_
    refine RL.q (Qt.eql rfl rfl) ?_
    refine RL.q (Qt.as rfl) ?_
    refine RL.nil ?_
    refine RE.sqN ?_
    refine RC.ret ?_
    refine RE.sqR ?_
    have h : k.edf = true := h
    refine RE.retB rfl ⟨?_, rfl⟩ (hS.pick [1] (by decide) rfl)
    rw [kRight, if_pos h]; rfl
  · refine RC.skip ?_
    refine RE.sqN ?_
    refine RC.seq ?_
    refine RC.region rfl ?_
    refine RL.q (Qt.fld rfl) ?_
    refine RL.q (Qt.ld rfl (by exact hS.at 0 rfl) (by first  | rfl)) ?_
    refine RL.q (Qt.eql rfl rfl) ?_
    refine RL.q (Qt.as rfl) ?_
    refine RL.nil ?_
    refine RE.sqN ?_
    refine RC.ret ?_
    have h : k.edf = false := h
    refine RE.retB rfl ⟨?_, rfl⟩ (hS.pick [1] (by decide) rfl)
    rw [kRight, if_neg (by rw [h]; decide)]; rfl

set_option maxHeartbeats 4000000 in
theorem rsPut0 (p : Value) (n : Nat) (most : Int) (l : List KItem) (x : KItem) (hlen : l.length < 1000000) : Ct Try.prog 99 #[p, .agg x.cells.toArray] [rsO p n most l] (fun v ps => v = .tuple #[] ∧ ps = [rsO p n most (kput x l)]) := by
  refine Ct.enter Try.func99 rfl (Nat.le_of_ble_eq_true rfl) ?_
  intro oo w R hS
  change RC _ _ _ _ _ _ [(0, _), (1, _)] _
  obtain ⟨b, sp, cap, rfl, hl, hS⟩ := rsO_open hS
  have hS := (hS.nilOwn (T := 133) (sz := 4))
  refine RC.seq ?_
  refine RC.region rfl ?_
  refine RL.e (Ef.box hS rfl) ?_
  rintro _ w ⟨b3, rfl, hS⟩
  try simp (disch := omega) only [cells_agg'] at hS
  refine RL.nil ?_
  refine RE.sqN ?_
  refine RC.seq ?_
  refine RC.region rfl ?_
  refine RL.q (Qt.as rfl) ?_
  refine RL.nil ?_
  refine RE.sqN ?_
  refine RC.seq ?_
  refine RC.block ?_
  refine RC.loop (γ := Nat) (fun k E w' => E = [(4, .int .i64 k), (3, .pointer (some ⟨b3, 0, none⟩)), (0, .pointer (some ⟨b, 0, none⟩))] ∧ k ≤ l.length ∧ kput x l = l.take k ++ kput x (l.drop k) ∧
    Sat oo w' [pt b3 (.cells x.cells.toArray 133 (0, 0)), own (.slice none 0 0) 133 4 0 [], pt b (.cells #[.int .i64 n, .int .i64 most, .slice sp l.length cap] 107 (0, 0)), own (.slice sp l.length cap) 133 4 l.length (l.flatMap KItem.cells), R]) (fun k => l.length - k) 0 _ (by (repeat (first | exact Sub.nil | refine Sub.cons rfl ?_))) ⟨rfl, by omega, by simp, hS⟩ ?_
  clear hS
  rintro k E w ⟨rfl, hk, hkp, hS⟩
  by_cases hlt : k < l.length
  · have hd : l.drop k = l[k] :: l.drop (k + 1) := List.drop_eq_getElem_cons hlt
    rw [hd] at hkp
    obtain ⟨bs, cap', c, hv, hc1, hc2, hc3, hc4, hS⟩ := hS.ownPos 3 rfl (by omega)
    cases hv
    have hrow := row_part (f := KItem.cells) (sz := 4) (vs := l[k].k.cells.toArray) (a := 1) (n := 3) (fun _ => rfl) hc4 rfl (by rw [hc1]; exact Nat.mul_le_mul_right _ hc2) hlt rfl (by decide) (k := 0 + ((k : Nat) : Int).toNat * 4 + 1) (by omega) rfl
    have hxk : x.cells.toArray.extract (0 + 1) (0 + 1 + 3) = x.k.cells.toArray := rfl
    refine RC.seq ?_
    refine RC.seq ?_
    refine RC.drawn 21 [0, 1, 2, 3, 4, 5, 6, 7, 8, 9, 10, 11, 12, 13, 14, 15, 16, 17, 18, 19, 20] (fun w' => w'.heap[b3]? = some (.cells x.cells.toArray 133 (0, 0)) ∧ w'.heap[b]? = some (.cells #[.int .i64 n, .int .i64 most, .slice (some ⟨bs, 0, none⟩) l.length cap] 107 (0, 0)) ∧ w'.heap[bs]? = some (.cells c 133 (0, 0))) (by kernel_rfl) (by kernel_rfl) (⟨by exact hS.drew.get 0 rfl, by exact hS.drew.get 2 rfl, by exact hS.drew.get 3 rfl⟩) (fun hh => ?_)
    replace hS := hS.drew
    refine RH.q hh (Calm.sq (Calm.sq (Calm.lp (Calm.bk (Calm.sq Calm.body))))) rfl (by kernel_rfl) (Qt.mv rfl) ?_
    refine RH.q hh (Calm.sq (Calm.sq (Calm.lp (Calm.bk (Calm.sq Calm.body))))) rfl (by kernel_rfl) (Qt.mv rfl) ?_
    refine RH.q hh (Calm.sq (Calm.sq (Calm.lp (Calm.bk (Calm.sq Calm.body))))) rfl (by kernel_rfl) (Qt.nil rfl) ?_
    refine RH.q hh (Calm.sq (Calm.sq (Calm.lp (Calm.bk (Calm.sq Calm.body))))) rfl (by kernel_rfl) (Qt.fld rfl) ?_
    refine RH.q hh (Calm.sq (Calm.sq (Calm.lp (Calm.bk (Calm.sq Calm.body))))) rfl (by kernel_rfl) (Qt.ld rfl (by exact fun _ h => h.2.1) (by first  | rfl)) ?_
    refine RH.q hh (Calm.sq (Calm.sq (Calm.lp (Calm.bk (Calm.sq Calm.body))))) rfl (by kernel_rfl) (Qt.lenS rfl) ?_
    refine RH.q hh (Calm.sq (Calm.sq (Calm.lp (Calm.bk (Calm.sq Calm.body))))) rfl (by kernel_rfl) (Qt.lss rfl rfl) ?_
    refine RH.q hh (Calm.sq (Calm.sq (Calm.lp (Calm.bk (Calm.sq Calm.body))))) rfl (by kernel_rfl) (Qt.mv rfl) ?_
    refine RH.q hh (Calm.sq (Calm.sq (Calm.lp (Calm.bk (Calm.sq Calm.body))))) rfl (by kernel_rfl) (Qt.fld rfl) ?_ (Runs.guard rfl rfl rfl (decide_eq_true (show (k : Int) < (l.length : Int) by omega)))
    refine RH.q hh (Calm.sq (Calm.sq (Calm.lp (Calm.bk (Calm.sq Calm.body))))) rfl (by kernel_rfl) (Qt.ldA rfl (by exact fun _ h => h.1) (by exact hxk) (by exact Nat.le_of_ble_eq_true rfl)) ?_ (Runs.guard rfl rfl rfl (decide_eq_true (show (k : Int) < (l.length : Int) by omega)))
    refine RH.q hh (Calm.sq (Calm.sq (Calm.lp (Calm.bk (Calm.sq Calm.body))))) rfl (by kernel_rfl) (Qt.mv rfl) ?_ (Runs.guard rfl rfl rfl (decide_eq_true (show (k : Int) < (l.length : Int) by omega)))
    refine RH.q hh (Calm.sq (Calm.sq (Calm.lp (Calm.bk (Calm.sq Calm.body))))) rfl (by kernel_rfl) (Qt.nil rfl) ?_ (Runs.guard rfl rfl rfl (decide_eq_true (show (k : Int) < (l.length : Int) by omega)))
    refine RH.q hh (Calm.sq (Calm.sq (Calm.lp (Calm.bk (Calm.sq Calm.body))))) rfl (by kernel_rfl) (Qt.fld rfl) ?_ (Runs.guard rfl rfl rfl (decide_eq_true (show (k : Int) < (l.length : Int) by omega)))
    refine RH.q hh (Calm.sq (Calm.sq (Calm.lp (Calm.bk (Calm.sq Calm.body))))) rfl (by kernel_rfl) (Qt.ld rfl (by exact fun _ h => h.2.1) (by first  | rfl)) ?_ (Runs.guard rfl rfl rfl (decide_eq_true (show (k : Int) < (l.length : Int) by omega)))
    refine RH.q hh (Calm.sq (Calm.sq (Calm.lp (Calm.bk (Calm.sq Calm.body))))) rfl (by kernel_rfl) (Qt.mv rfl) ?_ (Runs.guard rfl rfl rfl (decide_eq_true (show (k : Int) < (l.length : Int) by omega)))
    refine RH.q hh (Calm.sq (Calm.sq (Calm.lp (Calm.bk (Calm.sq Calm.body))))) rfl (by kernel_rfl) (Qt.ixS rfl rfl (by omega) (by omega)) ?_ (Runs.guard rfl rfl rfl (decide_eq_true (show (k : Int) < (l.length : Int) by omega)))
    refine RH.q hh (Calm.sq (Calm.sq (Calm.lp (Calm.bk (Calm.sq Calm.body))))) rfl (by kernel_rfl) (Qt.fld rfl) ?_ (Runs.guard rfl rfl rfl (decide_eq_true (show (k : Int) < (l.length : Int) by omega)))
    refine RH.q hh (Calm.sq (Calm.sq (Calm.lp (Calm.bk (Calm.sq Calm.body))))) rfl (by kernel_rfl) (Qt.ldA rfl (by exact fun _ h => h.2.2) (by exact hrow) (by omega)) ?_ (Runs.guard rfl rfl rfl (decide_eq_true (show (k : Int) < (l.length : Int) by omega)))
    refine RH.e hh rfl (by kernel_rfl) (Ef.call hS (rkAbove x.k l[k].k) rfl rfl Try.call30 [] [0, 1, 2, 3, 4] (by decide) rfl rfl) ?_ (Runs.guard rfl rfl rfl (decide_eq_true (show (k : Int) < (l.length : Int) by omega)))
    rintro v24 w ⟨ps, ⟨rfl, rfl⟩, hS⟩
    try rw [List.nil_append] at hS
    refine ⟨⟨by exact hS.get 0 rfl, by exact hS.get 2 rfl, by exact hS.get 3 rfl⟩, ?_⟩
    refine RH.q hh (Calm.sq (Calm.sq (Calm.lp (Calm.bk (Calm.sq Calm.body))))) rfl (by kernel_rfl) (Qt.not rfl) ?_ (Runs.guard rfl rfl rfl (decide_eq_true (show (k : Int) < (l.length : Int) by omega)))
    refine RH.q hh (Calm.sq (Calm.sq (Calm.lp (Calm.bk (Calm.sq Calm.body))))) rfl (by kernel_rfl) ((by exact Qt.pickT rfl (decide_eq_true (show (k : Int) < (l.length : Int) by omega)) rfl)) ?_
    refine RH.done hh (by kernel_rfl) ?_
    refine RL.nil ?_
    refine RE.sqN ?_
    refine RC.cond rfl (fun h2 => ?_) (fun h2 => ?_)
    · refine RC.skip ?_
      refine RE.sqN ?_
      refine RC.block ?_
      refine RC.region rfl ?_
      refine RL.q (Qt.mv rfl) ?_
      refine RL.q ((by exact Qt.addI rfl rfl (by dsimp only [inK]; omega))) ?_
      refine RL.q (Qt.as rfl) ?_
      refine RL.nil ?_
      refine RE.bkN ?_
      have h2 : kAbove x.k l[k].k = false := by simpa using h2
      rw [show kput x (l[k] :: l.drop (k + 1)) = l[k] :: kput x (l.drop (k + 1)) by rw [kput, if_neg (by rw [h2]; decide)]] at hkp
      have htk : l.take (k + 1) = l.take k ++ [l[k]] := by rw [List.take_succ_eq_append_getElem hlt]
      have hS := (hS.pick [0, 1, 2, 3, 4] (by decide) rfl).ownMk (cap := cap) (n := l.length) (sz := 4) (cs := l.flatMap KItem.cells) 3 rfl hc1 hc2 hc3 hc4
      apply RE.lpN (k + 1)
      case hI => exact ⟨rfl, hlt, by rw [htk, hkp, List.append_assoc]; rfl, hS⟩
      case hs => (repeat (first | exact Sub.nil | refine Sub.cons rfl ?_))
      case hm =>
        show l.length - (k + 1) < l.length - k
        omega
    · skip
      have h2 : kAbove x.k l[k].k = true := by simpa using h2
      have hkq : kput x l = l.take k ++ x :: l.drop k := by rw [hkp, kput, if_pos h2, hd]
      clear hd hkp
      have hxr : x.cells.toArray.extract 0 (0 + 4) = x.cells.toArray := rfl
      have hpl : (kput x l).length = l.length + 1 := kput_len x l
      refine RC.exit ?_
      refine RE.sqX ?_
      refine RE.lpX ?_
      refine RE.bkX ?_
      refine RE.sqN ?_
      refine RC.seq ?_
      refine RC.region rfl ?_
      refine RL.q (Qt.as rfl) ?_
      refine RL.nil ?_
      refine RE.sqN ?_
      refine RC.seq ?_
      refine RC.drawn 12 [0, 1, 2, 3, 4, 5, 6, 8, 7, 9, 10, 11] (fun w' => w'.heap[b3]? = some (.cells x.cells.toArray 133 (0, 0)) ∧ w'.heap[b]? = some (.cells #[.int .i64 n, .int .i64 most, .slice (some ⟨bs, 0, none⟩) l.length cap] 107 (0, 0))) (by kernel_rfl) (by kernel_rfl) (⟨by exact hS.drew.get 0 rfl, by exact hS.drew.get 2 rfl⟩) (fun hh => ?_)
      replace hS := hS.drew
      refine RH.q hh (Calm.sq Calm.body) rfl (by kernel_rfl) (Qt.mv rfl) ?_
      refine RH.q hh (Calm.sq Calm.body) rfl (by kernel_rfl) (Qt.mv rfl) ?_
      refine RH.q hh (Calm.sq Calm.body) rfl (by kernel_rfl) (Qt.nil rfl) ?_
      refine RH.q hh (Calm.sq Calm.body) rfl (by kernel_rfl) (Qt.fld rfl) ?_
      refine RH.q hh (Calm.sq Calm.body) rfl (by kernel_rfl) (Qt.ld rfl (by exact fun _ h => h.2) (by first  | rfl)) ?_
      refine RH.q hh (Calm.sq Calm.body) rfl (by kernel_rfl) (Qt.mv rfl) ?_
      refine RH.q hh (Calm.sq Calm.body) rfl (by kernel_rfl) (Qt.slHi rfl rfl (by omega) (by omega)) ?_
      refine RH.q hh (Calm.sq Calm.body) rfl (by kernel_rfl) (Qt.ldA rfl (by exact fun _ h => h.1) (by exact hxr) (by exact Nat.le_of_ble_eq_true rfl)) ?_
      apply RH.pair _ hh rfl rfl (by kernel_rfl) rfl
      · refine ⟨_, Ef.app (k := 1) hS rfl rfl rfl (by exact Src.rowsTake (fun _ => rfl) (hS.get 3 rfl) hc1 hc2 hc4 (by omega)) (by omega) (by exact rs_plain _), ?_⟩
        intro v w hS
        refine ⟨⟨by exact hS.get 0 rfl, by exact hS.get 2 rfl⟩, _, Ef.bsl1 hS rfl, ?_⟩
        exact fun u w h => h
      · refine ⟨_, Ef.bsl1 hS rfl, ?_⟩
        rintro u w ⟨b, rfl, hS⟩
        refine ⟨⟨by exact hS.get 1 rfl, by exact hS.get 3 rfl⟩, _, Ef.app (k := 2) hS rfl rfl rfl (by exact Src.rowsTake (fun _ => rfl) (hS.get 4 rfl) hc1 hc2 hc4 (by omega)) (by omega) (by exact rs_plain _), ?_⟩
        exact fun v w h => ⟨b, rfl, h⟩
      rintro s36 v38 w ⟨b38, rfl, hS⟩
      simp only [List.set_cons_zero, List.set_cons_succ, Nat.zero_add] at hS
      try simp (disch := omega) only [cells_agg'] at hS
      obtain ⟨sp36, cp36, rfl⟩ := hS.ownForm 2 rfl
      refine ⟨⟨by exact hS.get 1 rfl, by exact hS.get 3 rfl⟩, ?_⟩
      refine RH.e hh rfl (by kernel_rfl) (Ef.app (k := 2) hS rfl rfl rfl (by exact Src.pt (hS.get 0 rfl) (Nat.le_of_ble_eq_true rfl)) (by omega) (by rfl)) ?_
      intro s39 w hS
      simp only [List.set_cons_zero, List.set_cons_succ, List.drop_zero] at hS
      (obtain ⟨sp39, cp39, rfl⟩ := hS.ownForm 2 rfl)
      refine ⟨⟨by exact hS.get 1 rfl, by exact hS.get 3 rfl⟩, ?_⟩
      refine RH.q hh (Calm.sq Calm.body) rfl (by kernel_rfl) (Qt.as rfl) ?_
      refine RH.done hh (by kernel_rfl) ?_
      refine RL.nil ?_
      refine RE.sqN ?_
      refine RC.seq ?_
      refine RC.region rfl ?_
      refine RL.q (Qt.mv rfl) ?_
      refine RL.q (Qt.mv rfl) ?_
      refine RL.q (Qt.nil rfl) ?_
      refine RL.q (Qt.fld rfl) ?_
      refine RL.q (Qt.ld rfl (by exact hS.at 3 rfl) (by first  | rfl)) ?_
      refine RL.q (Qt.mv rfl) ?_
      refine RL.q ((by exact Qt.slLo rfl rfl (by omega) (by omega))) ?_
      refine RL.e (Ef.app (k := 2) hS rfl rfl rfl (by exact Src.rowsDrop (k := k) (fun _ => rfl) (hS.get 4 rfl) hc1 hc2 hc4 (by omega) rfl (by split <;> omega)) (by omega) (by exact rs_plain _)) ?_
      intro s47 w hS
      simp only [List.set_cons_zero, List.set_cons_succ] at hS
      (obtain ⟨sp47, cp47, rfl⟩ := hS.ownForm 2 rfl)
      refine RL.q (Qt.as rfl) ?_
      refine RL.nil ?_
      refine RE.sqN ?_
      refine RC.region rfl ?_
      refine RL.q (Qt.mv rfl) ?_
      refine RL.q (Qt.mv rfl) ?_
      refine RL.q (Qt.nil rfl) ?_
      refine RL.q (Qt.fld rfl) ?_
      refine RL.e0 (Ef.st hS 3 rfl rfl rfl (by rfl) (by rfl) (by exact Nat.le_of_ble_eq_true rfl)) ?_
      intro _ w hS
      simp (disch := omega) only [List.set_cons_zero, List.set_cons_succ, cells_slice', Nat.zero_add, wr, List.setIfInBounds_toArray] at hS
      refine RL.nil ?_
      have e1 : k + 1 + (l.length - k) = (kput x l).length := by rw [hpl]; omega
      have e2 : [] ++ (l.take k).flatMap KItem.cells ++ x.cells ++ (l.drop k).flatMap KItem.cells = (kput x l).flatMap KItem.cells := by rw [hkq, List.flatMap_append, List.flatMap_cons]; simp [KItem.cells]
      refine RE.endB rfl ⟨rfl, rfl⟩ (rsO_shut (s := .slice sp47 (kput x l).length cp47) (by omega) ?_)
      rw [← e1, ← e2]
      exact hS.pick [3, 2, 5] (by decide) rfl
  · have hkl : k = l.length := by omega
    subst hkl
    have hkq : kput x l = l.take l.length ++ x :: l.drop l.length := by rw [hkp, List.drop_length]; rfl
    clear hkp hlt
    have hxr : x.cells.toArray.extract 0 (0 + 4) = x.cells.toArray := rfl
    refine RC.seq ?_
    refine RC.seq ?_
    refine RC.drawn 21 [0, 1, 2, 3, 4, 5, 6, 7, 8, 9, 10, 11, 12, 13, 14, 15, 16, 17, 18, 19, 20] (fun w' => w'.heap[b]? = some (.cells #[.int .i64 n, .int .i64 most, .slice sp l.length cap] 107 (0, 0))) (by kernel_rfl) (by kernel_rfl) (hS.drew.get 2 rfl) (fun hh => ?_)
    replace hS := hS.drew
    refine RH.q hh (Calm.sq (Calm.sq (Calm.lp (Calm.bk (Calm.sq Calm.body))))) rfl (by kernel_rfl) (Qt.mv rfl) ?_
    refine RH.q hh (Calm.sq (Calm.sq (Calm.lp (Calm.bk (Calm.sq Calm.body))))) rfl (by kernel_rfl) (Qt.mv rfl) ?_
    refine RH.q hh (Calm.sq (Calm.sq (Calm.lp (Calm.bk (Calm.sq Calm.body))))) rfl (by kernel_rfl) (Qt.nil rfl) ?_
    refine RH.q hh (Calm.sq (Calm.sq (Calm.lp (Calm.bk (Calm.sq Calm.body))))) rfl (by kernel_rfl) (Qt.fld rfl) ?_
    refine RH.q hh (Calm.sq (Calm.sq (Calm.lp (Calm.bk (Calm.sq Calm.body))))) rfl (by kernel_rfl) (Qt.ld rfl (fun _ h => h) (by first  | rfl)) ?_
    refine RH.q hh (Calm.sq (Calm.sq (Calm.lp (Calm.bk (Calm.sq Calm.body))))) rfl (by kernel_rfl) (Qt.lenS rfl) ?_
    refine RH.q hh (Calm.sq (Calm.sq (Calm.lp (Calm.bk (Calm.sq Calm.body))))) rfl (by kernel_rfl) (Qt.lss rfl rfl) ?_
    refine RH.q hh (Calm.sq (Calm.sq (Calm.lp (Calm.bk (Calm.sq Calm.body))))) rfl (by kernel_rfl) (Qt.mv rfl) ?_
    refine RH.s hh (Calm.sq (Calm.sq (Calm.lp (Calm.bk (Calm.sq Calm.body))))) rfl (by kernel_rfl) (Skips.guard rfl rfl rfl (decide_eq_false (show ¬ (l.length : Int) < (l.length : Int) by omega))) ?_
    refine RH.s hh (Calm.sq (Calm.sq (Calm.lp (Calm.bk (Calm.sq Calm.body))))) rfl (by kernel_rfl) (Skips.guard rfl rfl rfl (decide_eq_false (show ¬ (l.length : Int) < (l.length : Int) by omega))) ?_
    refine RH.s hh (Calm.sq (Calm.sq (Calm.lp (Calm.bk (Calm.sq Calm.body))))) rfl (by kernel_rfl) (Skips.guard rfl rfl rfl (decide_eq_false (show ¬ (l.length : Int) < (l.length : Int) by omega))) ?_
    refine RH.s hh (Calm.sq (Calm.sq (Calm.lp (Calm.bk (Calm.sq Calm.body))))) rfl (by kernel_rfl) (Skips.guard rfl rfl rfl (decide_eq_false (show ¬ (l.length : Int) < (l.length : Int) by omega))) ?_
    refine RH.s hh (Calm.sq (Calm.sq (Calm.lp (Calm.bk (Calm.sq Calm.body))))) rfl (by kernel_rfl) (Skips.guard rfl rfl rfl (decide_eq_false (show ¬ (l.length : Int) < (l.length : Int) by omega))) ?_
    refine RH.s hh (Calm.sq (Calm.sq (Calm.lp (Calm.bk (Calm.sq Calm.body))))) rfl (by kernel_rfl) (Skips.guard rfl rfl rfl (decide_eq_false (show ¬ (l.length : Int) < (l.length : Int) by omega))) ?_
    refine RH.s hh (Calm.sq (Calm.sq (Calm.lp (Calm.bk (Calm.sq Calm.body))))) rfl (by kernel_rfl) (Skips.guard rfl rfl rfl (decide_eq_false (show ¬ (l.length : Int) < (l.length : Int) by omega))) ?_
    refine RH.s hh (Calm.sq (Calm.sq (Calm.lp (Calm.bk (Calm.sq Calm.body))))) rfl (by kernel_rfl) (Skips.guard rfl rfl rfl (decide_eq_false (show ¬ (l.length : Int) < (l.length : Int) by omega))) ?_
    refine RH.s hh (Calm.sq (Calm.sq (Calm.lp (Calm.bk (Calm.sq Calm.body))))) rfl (by kernel_rfl) (Skips.guard rfl rfl rfl (decide_eq_false (show ¬ (l.length : Int) < (l.length : Int) by omega))) ?_
    refine RH.s hh (Calm.sq (Calm.sq (Calm.lp (Calm.bk (Calm.sq Calm.body))))) rfl (by kernel_rfl) (Skips.guard rfl rfl rfl (decide_eq_false (show ¬ (l.length : Int) < (l.length : Int) by omega))) ?_
    refine RH.s hh (Calm.sq (Calm.sq (Calm.lp (Calm.bk (Calm.sq Calm.body))))) rfl (by kernel_rfl) (Skips.guard rfl rfl rfl (decide_eq_false (show ¬ (l.length : Int) < (l.length : Int) by omega))) ?_
    refine RH.s hh (Calm.sq (Calm.sq (Calm.lp (Calm.bk (Calm.sq Calm.body))))) rfl (by kernel_rfl) (Skips.guard rfl rfl rfl (decide_eq_false (show ¬ (l.length : Int) < (l.length : Int) by omega))) ?_
    refine RH.q hh (Calm.sq (Calm.sq (Calm.lp (Calm.bk (Calm.sq Calm.body))))) rfl (by kernel_rfl) ((by exact Qt.pickF rfl (decide_eq_false (show ¬ (l.length : Int) < (l.length : Int) by omega)) rfl)) ?_
    refine RH.done hh (by kernel_rfl) ?_
    refine RL.nil ?_
    refine RE.sqN ?_
    refine RC.condF rfl (rfl) ?_
    refine RC.exit ?_
    refine RE.sqX ?_
    refine RE.lpX ?_
    refine RE.bkX ?_
    refine RE.sqN ?_
    refine RC.seq ?_
    refine RC.region rfl ?_
    refine RL.q (Qt.as rfl) ?_
    refine RL.nil ?_
    refine RE.sqN ?_
    refine RC.seq ?_
    rcases Nat.eq_zero_or_pos l.length with hz | hz
    · obtain rfl := List.length_eq_zero_iff.1 hz
      have hpl : (kput x ([] : List KItem)).length = ([] : List KItem).length + 1 := kput_len x ([] : List KItem)
      refine RC.drawn 12 [0, 1, 2, 3, 4, 5, 6, 8, 7, 9, 10, 11] (fun w' => w'.heap[b3]? = some (.cells x.cells.toArray 133 (0, 0)) ∧ w'.heap[b]? = some (.cells #[.int .i64 n, .int .i64 most, .slice sp 0 cap] 107 (0, 0))) (by kernel_rfl) (by kernel_rfl) (⟨by exact hS.drew.get 0 rfl, by exact hS.drew.get 2 rfl⟩) (fun hh => ?_)
      replace hS := hS.drew
      refine RH.q hh (Calm.sq Calm.body) rfl (by kernel_rfl) (Qt.mv rfl) ?_
      refine RH.q hh (Calm.sq Calm.body) rfl (by kernel_rfl) (Qt.mv rfl) ?_
      refine RH.q hh (Calm.sq Calm.body) rfl (by kernel_rfl) (Qt.nil rfl) ?_
      refine RH.q hh (Calm.sq Calm.body) rfl (by kernel_rfl) (Qt.fld rfl) ?_
      refine RH.q hh (Calm.sq Calm.body) rfl (by kernel_rfl) (Qt.ld rfl (by exact fun _ h => h.2) (by first  | rfl)) ?_
      refine RH.q hh (Calm.sq Calm.body) rfl (by kernel_rfl) (Qt.mv rfl) ?_
      refine RH.q hh (Calm.sq Calm.body) rfl (by kernel_rfl) (Qt.slHi rfl rfl (by omega) (by omega)) ?_
      refine RH.q hh (Calm.sq Calm.body) rfl (by kernel_rfl) (Qt.ldA rfl (by exact fun _ h => h.1) (by exact hxr) (by exact Nat.le_of_ble_eq_true rfl)) ?_
      apply RH.pair _ hh rfl rfl (by kernel_rfl) rfl
      · refine ⟨_, Ef.app (k := 1) hS rfl rfl rfl (by exact Src.own hS 3 rfl) (by omega) (by exact rs_plain _), ?_⟩
        intro v w hS
        refine ⟨⟨by exact hS.get 0 rfl, by exact hS.get 2 rfl⟩, _, Ef.bsl1 hS rfl, ?_⟩
        exact fun u w h => h
      · refine ⟨_, Ef.bsl1 hS rfl, ?_⟩
        rintro u w ⟨b, rfl, hS⟩
        refine ⟨⟨by exact hS.get 1 rfl, by exact hS.get 3 rfl⟩, _, Ef.app (k := 2) hS rfl rfl rfl (by exact Src.own hS 4 rfl) (by omega) (by exact rs_plain _), ?_⟩
        exact fun v w h => ⟨b, rfl, h⟩
      rintro s36 v38 w ⟨b38, rfl, hS⟩
      simp only [List.set_cons_zero, List.set_cons_succ, Nat.zero_add] at hS
      try simp (disch := omega) only [cells_agg'] at hS
      obtain ⟨sp36, cp36, rfl⟩ := hS.ownForm 2 rfl
      refine ⟨⟨by exact hS.get 1 rfl, by exact hS.get 3 rfl⟩, ?_⟩
      refine RH.e hh rfl (by kernel_rfl) (Ef.app (k := 2) hS rfl rfl rfl (by exact Src.pt (hS.get 0 rfl) (Nat.le_of_ble_eq_true rfl)) (by omega) (by rfl)) ?_
      intro s39 w hS
      simp only [List.set_cons_zero, List.set_cons_succ, List.drop_zero] at hS
      (obtain ⟨sp39, cp39, rfl⟩ := hS.ownForm 2 rfl)
      refine ⟨⟨by exact hS.get 1 rfl, by exact hS.get 3 rfl⟩, ?_⟩
      refine RH.q hh (Calm.sq Calm.body) rfl (by kernel_rfl) (Qt.as rfl) ?_
      refine RH.done hh (by kernel_rfl) ?_
      refine RL.nil ?_
      refine RE.sqN ?_
      refine RC.seq ?_
      refine RC.region rfl ?_
      refine RL.q (Qt.mv rfl) ?_
      refine RL.q (Qt.mv rfl) ?_
      refine RL.q (Qt.nil rfl) ?_
      refine RL.q (Qt.fld rfl) ?_
      refine RL.q (Qt.ld rfl (by exact hS.at 3 rfl) (by first  | rfl)) ?_
      refine RL.q (Qt.mv rfl) ?_
      refine RL.q ((by exact Qt.slLo0 rfl rfl)) ?_
      refine RL.e (Ef.app (k := 2) hS rfl rfl rfl (by exact Src.own hS 4 rfl) (by omega) (by exact rs_plain _)) ?_
      intro s47 w hS
      simp only [List.set_cons_zero, List.set_cons_succ] at hS
      (obtain ⟨sp47, cp47, rfl⟩ := hS.ownForm 2 rfl)
      refine RL.q (Qt.as rfl) ?_
      refine RL.nil ?_
      refine RE.sqN ?_
      refine RC.region rfl ?_
      refine RL.q (Qt.mv rfl) ?_
      refine RL.q (Qt.mv rfl) ?_
      refine RL.q (Qt.nil rfl) ?_
      refine RL.q (Qt.fld rfl) ?_
      refine RL.e0 (Ef.st hS 3 rfl rfl rfl (by rfl) (by rfl) (by exact Nat.le_of_ble_eq_true rfl)) ?_
      intro _ w hS
      simp (disch := omega) only [List.set_cons_zero, List.set_cons_succ, cells_slice', Nat.zero_add, wr, List.setIfInBounds_toArray] at hS
      refine RL.nil ?_
      have e1 : ([] : List KItem).length + 1 + ([] : List KItem).length = (kput x ([] : List KItem)).length := by rw [hpl]; omega
      have e2 : [] ++ [] ++ x.cells ++ [] = (kput x ([] : List KItem)).flatMap KItem.cells := by rw [hkq, List.flatMap_append, List.flatMap_cons]; simp [KItem.cells]
      refine RE.endB rfl ⟨rfl, rfl⟩ (rsO_shut (s := .slice sp47 (kput x ([] : List KItem)).length cp47) (by omega) ?_)
      rw [← e1, ← e2]
      exact hS.pick [3, 2, 5] (by decide) rfl
    · obtain ⟨bs, cap', c, hv, hc1, hc2, hc3, hc4, hS⟩ := hS.ownPos 3 rfl (by omega)
      cases hv
      have hpl : (kput x l).length = l.length + 1 := kput_len x l
      refine RC.drawn 12 [0, 1, 2, 3, 4, 5, 6, 8, 7, 9, 10, 11] (fun w' => w'.heap[b3]? = some (.cells x.cells.toArray 133 (0, 0)) ∧ w'.heap[b]? = some (.cells #[.int .i64 n, .int .i64 most, .slice (some ⟨bs, 0, none⟩) l.length cap] 107 (0, 0))) (by kernel_rfl) (by kernel_rfl) (⟨by exact hS.drew.get 0 rfl, by exact hS.drew.get 2 rfl⟩) (fun hh => ?_)
      replace hS := hS.drew
      refine RH.q hh (Calm.sq Calm.body) rfl (by kernel_rfl) (Qt.mv rfl) ?_
      refine RH.q hh (Calm.sq Calm.body) rfl (by kernel_rfl) (Qt.mv rfl) ?_
      refine RH.q hh (Calm.sq Calm.body) rfl (by kernel_rfl) (Qt.nil rfl) ?_
      refine RH.q hh (Calm.sq Calm.body) rfl (by kernel_rfl) (Qt.fld rfl) ?_
      refine RH.q hh (Calm.sq Calm.body) rfl (by kernel_rfl) (Qt.ld rfl (by exact fun _ h => h.2) (by first  | rfl)) ?_
      refine RH.q hh (Calm.sq Calm.body) rfl (by kernel_rfl) (Qt.mv rfl) ?_
      refine RH.q hh (Calm.sq Calm.body) rfl (by kernel_rfl) (Qt.slHi rfl rfl (by omega) (by omega)) ?_
      refine RH.q hh (Calm.sq Calm.body) rfl (by kernel_rfl) (Qt.ldA rfl (by exact fun _ h => h.1) (by exact hxr) (by exact Nat.le_of_ble_eq_true rfl)) ?_
      apply RH.pair _ hh rfl rfl (by kernel_rfl) rfl
      · refine ⟨_, Ef.app (k := 1) hS rfl rfl rfl (by exact Src.rowsTake (fun _ => rfl) (hS.get 3 rfl) hc1 hc2 hc4 (by omega)) (by omega) (by exact rs_plain _), ?_⟩
        intro v w hS
        refine ⟨⟨by exact hS.get 0 rfl, by exact hS.get 2 rfl⟩, _, Ef.bsl1 hS rfl, ?_⟩
        exact fun u w h => h
      · refine ⟨_, Ef.bsl1 hS rfl, ?_⟩
        rintro u w ⟨b, rfl, hS⟩
        refine ⟨⟨by exact hS.get 1 rfl, by exact hS.get 3 rfl⟩, _, Ef.app (k := 2) hS rfl rfl rfl (by exact Src.rowsTake (fun _ => rfl) (hS.get 4 rfl) hc1 hc2 hc4 (by omega)) (by omega) (by exact rs_plain _), ?_⟩
        exact fun v w h => ⟨b, rfl, h⟩
      rintro s36 v38 w ⟨b38, rfl, hS⟩
      simp only [List.set_cons_zero, List.set_cons_succ, Nat.zero_add] at hS
      try simp (disch := omega) only [cells_agg'] at hS
      obtain ⟨sp36, cp36, rfl⟩ := hS.ownForm 2 rfl
      refine ⟨⟨by exact hS.get 1 rfl, by exact hS.get 3 rfl⟩, ?_⟩
      refine RH.e hh rfl (by kernel_rfl) (Ef.app (k := 2) hS rfl rfl rfl (by exact Src.pt (hS.get 0 rfl) (Nat.le_of_ble_eq_true rfl)) (by omega) (by rfl)) ?_
      intro s39 w hS
      simp only [List.set_cons_zero, List.set_cons_succ, List.drop_zero] at hS
      (obtain ⟨sp39, cp39, rfl⟩ := hS.ownForm 2 rfl)
      refine ⟨⟨by exact hS.get 1 rfl, by exact hS.get 3 rfl⟩, ?_⟩
      refine RH.q hh (Calm.sq Calm.body) rfl (by kernel_rfl) (Qt.as rfl) ?_
      refine RH.done hh (by kernel_rfl) ?_
      refine RL.nil ?_
      refine RE.sqN ?_
      refine RC.seq ?_
      refine RC.region rfl ?_
      refine RL.q (Qt.mv rfl) ?_
      refine RL.q (Qt.mv rfl) ?_
      refine RL.q (Qt.nil rfl) ?_
      refine RL.q (Qt.fld rfl) ?_
      refine RL.q (Qt.ld rfl (by exact hS.at 3 rfl) (by first  | rfl)) ?_
      refine RL.q (Qt.mv rfl) ?_
      refine RL.q ((by exact Qt.slLo rfl rfl (by omega) (by omega))) ?_
      refine RL.e (Ef.app (k := 2) hS rfl rfl rfl (by exact Src.rowsDrop (k := l.length) (fun _ => rfl) (hS.get 4 rfl) hc1 hc2 hc4 (by omega) rfl (by split <;> omega)) (by omega) (by exact rs_plain _)) ?_
      intro s47 w hS
      simp only [List.set_cons_zero, List.set_cons_succ] at hS
      (obtain ⟨sp47, cp47, rfl⟩ := hS.ownForm 2 rfl)
      refine RL.q (Qt.as rfl) ?_
      refine RL.nil ?_
      refine RE.sqN ?_
      refine RC.region rfl ?_
      refine RL.q (Qt.mv rfl) ?_
      refine RL.q (Qt.mv rfl) ?_
      refine RL.q (Qt.nil rfl) ?_
      refine RL.q (Qt.fld rfl) ?_
      refine RL.e0 (Ef.st hS 3 rfl rfl rfl (by rfl) (by rfl) (by exact Nat.le_of_ble_eq_true rfl)) ?_
      intro _ w hS
      simp (disch := omega) only [List.set_cons_zero, List.set_cons_succ, cells_slice', Nat.zero_add, wr, List.setIfInBounds_toArray] at hS
      refine RL.nil ?_
      have e1 : l.length + 1 + (l.length - l.length) = (kput x l).length := by rw [hpl]; omega
      have e2 : [] ++ (l.take l.length).flatMap KItem.cells ++ x.cells ++ (l.drop l.length).flatMap KItem.cells = (kput x l).flatMap KItem.cells := by rw [hkq, List.flatMap_append, List.flatMap_cons]; simp [KItem.cells]
      refine RE.endB rfl ⟨rfl, rfl⟩ (rsO_shut (s := .slice sp47 (kput x l).length cp47) (by omega) ?_)
      rw [← e1, ← e2]
      exact hS.pick [3, 2, 5] (by decide) rfl

end Go.Proofs

/- The reference's set of layer 10: Put, Change, Remove, Take, Top, Key, New. -/
namespace Go.Proofs
open Go Go.Gx
variable {oo : World}

theorem krange_or {id : Int} {n : Nat} (h : id < 0 ∨ id ≥ n) : (decide (id < 0) || decide (id ≥ (n : Int))) = true := by simpa using h
theorem krange_nor {id : Int} {n : Nat} (h : ¬ (id < 0 ∨ id ≥ n)) : (decide (id < 0) || decide (id ≥ (n : Int))) = false := by simpa using h

set_option maxHeartbeats 2000000 in
theorem rsPut (p : Value) (n : Nat) (most : Int) (l : List KItem) (id : Int) (k : KKey) (hlen : l.length < 1000000) : Ct Try.prog 82 #[p, .int .i64 id, .agg k.cells.toArray] [rsO p n most l] (fun v ps => v = .int .i64 (kPutErr l n most id k) ∧ ps = [rsO p n most (kPut l n most id k)]) := by
  refine Ct.enter Try.func82 rfl (Nat.le_of_ble_eq_true rfl) ?_
  intro oo w R hS
  change RC _ _ _ _ _ _ [(0, _), (1, _), (2, _)] _
  obtain ⟨b, sp, cap, rfl, hl, hS⟩ := rsO_open hS
  have hkx : k.cells.toArray.extract 0 (0 + 3) = k.cells.toArray := rfl
  refine RC.seq ?_
  refine RC.region rfl ?_
  refine RL.e (Ef.box hS rfl) ?_
  rintro _ w ⟨b5, rfl, hS⟩
  try simp (disch := omega) only [cells_agg'] at hS
  refine RL.q (Qt.as rfl) ?_
  refine RL.nil ?_
  refine RE.sqN ?_
  refine RC.seq ?_
  refine RC.block ?_
  refine RC.seq ?_
  refine RC.region rfl ?_
  refine RL.q (Qt.mv rfl) ?_
  refine RL.q (Qt.eqlN rfl rfl) ?_
  refine RL.q (Qt.as rfl) ?_
  refine RL.nil ?_
  refine RE.sqN ?_
  by_cases hr : id < 0 ∨ id ≥ n
  · have hg := krange_or hr
    refine RC.condF rfl (rfl) ?_
    refine RC.seq ?_
    refine RC.region rfl ?_
    refine RL.q (Qt.mv rfl) ?_
    refine RL.q (Qt.lss rfl rfl) ?_
    refine RL.q (Qt.mv rfl) ?_
    refine RLG.start 13 false rfl ?_
    refine RLG.q rfl rfl rfl (fun _ => Qt.mv rfl) ?_
    refine RLG.q rfl rfl rfl (fun _ => Qt.mv rfl) ?_
    refine RLG.q rfl rfl rfl (fun _ => Qt.nil rfl) ?_
    refine RLG.q rfl rfl rfl (fun _ => Qt.fld rfl) ?_
    refine RLG.q rfl rfl rfl (fun hg => by (try simp only [decide_eq_false_iff_not] at hg); exact Qt.ld rfl (by exact hS.at 1 rfl) (by first  | rfl)) ?_
    refine RLG.q rfl rfl rfl (fun hg => by (try simp only [decide_eq_false_iff_not] at hg); exact Qt.geq rfl rfl) ?_
    refine RLG.or rfl rfl ?_
    refine RL.q (Qt.mv rfl) ?_
    refine RL.s (Skips.guard rfl rfl rfl (hg)) ?_
    refine RL.s (Skips.guard rfl rfl rfl (hg)) ?_
    refine RL.s (Skips.guard rfl rfl rfl (hg)) ?_
    refine RL.q ((by exact Qt.pickT rfl (by assumption) rfl)) ?_
    refine RL.q (Qt.as rfl) ?_
    refine RL.nil ?_
    refine RE.sqN ?_
    refine RC.condT rfl (rfl) ?_
    refine RC.seq ?_
    refine RC.region rfl ?_
    refine RL.q (Qt.as rfl) ?_
    refine RL.nil ?_
    refine RE.sqN ?_
    refine RC.ret ?_
    refine RE.bkR ?_
    refine RE.sqR ?_
    have he : kErr l n id (kRight k) false = 2 := kErr_range (by omega)
    have hpe : kPutErr l n most id k = 2 := by rw [kPutErr, he, if_neg (by decide)]
    refine RE.retB rfl (ps := [rsO _ n most _]) ⟨by rw [hpe]; rfl, rfl⟩ ?_
    rw [kPut, hpe, if_neg (by decide)]
    exact rsO_shut hl (hS.pick [1, 2, 3] (by decide) rfl)
  · have hg := krange_nor hr
    refine RC.condF rfl (rfl) ?_
    refine RC.seq ?_
    refine RC.region rfl ?_
    refine RL.q (Qt.mv rfl) ?_
    refine RL.q (Qt.lss rfl rfl) ?_
    refine RL.q (Qt.mv rfl) ?_
    refine RLG.start 13 false rfl ?_
    refine RLG.q rfl rfl rfl (fun _ => Qt.mv rfl) ?_
    refine RLG.q rfl rfl rfl (fun _ => Qt.mv rfl) ?_
    refine RLG.q rfl rfl rfl (fun _ => Qt.nil rfl) ?_
    refine RLG.q rfl rfl rfl (fun _ => Qt.fld rfl) ?_
    refine RLG.q rfl rfl rfl (fun hg => by (try simp only [decide_eq_false_iff_not] at hg); exact Qt.ld rfl (by exact hS.at 1 rfl) (by first  | rfl)) ?_
    refine RLG.q rfl rfl rfl (fun hg => by (try simp only [decide_eq_false_iff_not] at hg); exact Qt.geq rfl rfl) ?_
    refine RLG.or rfl rfl ?_
    refine RL.q (Qt.mv rfl) ?_
    refine RL.q (Qt.ldA rfl (by exact hS.at 0 rfl) (by exact hkx) (by exact Nat.le_of_ble_eq_true rfl)) ?_ (Runs.guard rfl rfl rfl (hg))
    refine RL.e (Ef.call hS (rkRight k) rfl rfl Try.call81 [] [0, 1, 2, 3] (by decide) rfl rfl) ?_ (Runs.guard rfl rfl rfl (hg))
    rintro v23 w ⟨ps, ⟨rfl, rfl⟩, hS⟩
    try rw [List.nil_append] at hS
    refine RL.q (Qt.not rfl) ?_ (Runs.guard rfl rfl rfl (hg))
    refine RL.q ((by exact Qt.pickF rfl (by assumption) rfl)) ?_
    refine RL.q (Qt.as rfl) ?_
    refine RL.nil ?_
    refine RE.sqN ?_
    refine RC.cond rfl (fun h => ?_) (fun h => ?_)
    · refine RC.seq ?_
      refine RC.region rfl ?_
      refine RL.q (Qt.as rfl) ?_
      refine RL.nil ?_
      refine RE.sqN ?_
      refine RC.ret ?_
      refine RE.bkR ?_
      refine RE.sqR ?_
      have h : kRight k = false := by simpa using h
      have he : kErr l n id (kRight k) false = 2 := kErr_range (.inr (.inr h))
      have hpe : kPutErr l n most id k = 2 := by rw [kPutErr, he, if_neg (by decide)]
      refine RE.retB rfl (ps := [rsO _ n most _]) ⟨by rw [hpe]; rfl, rfl⟩ ?_
      rw [kPut, hpe, if_neg (by decide)]
      exact rsO_shut hl (hS.pick [1, 2, 3] (by decide) rfl)
    · skip
      have h : kRight k = true := by simpa using h
      have hr : ¬ (id < 0 ∨ id ≥ n ∨ kRight k = false) := by rw [h]; simpa using hr
      have hS := rsO_shut hl (hS.pick [1, 2, 0, 3] (by decide) rfl)
      refine RC.seq ?_
      refine RC.region rfl ?_
      refine RL.q (Qt.mv rfl) ?_
      refine RL.q (Qt.mv rfl) ?_
      refine RL.e (Ef.call hS (rsAt _ n most l id) rfl rfl Try.call92 [0] [1, 2] (by decide) rfl rfl) ?_
      rintro v29 w ⟨ps, ⟨rfl, rfl⟩, hS⟩
      refine RL.q (Qt.geq rfl rfl) ?_
      refine RL.q (Qt.as rfl) ?_
      refine RL.nil ?_
      refine RE.sqN ?_
      refine RC.cond rfl (fun h2 => ?_) (fun h2 => ?_)
      · refine RC.seq ?_
        refine RC.region rfl ?_
        refine RL.q (Qt.as rfl) ?_
        refine RL.nil ?_
        refine RE.sqN ?_
        refine RC.ret ?_
        refine RE.bkR ?_
        refine RE.sqR ?_
        have h2 : id ∈ kIds l := ixOf_mem.1 (of_decide_eq_true h2)
        have hpe : kPutErr l n most id k = 5 := by rw [kPutErr, kErr_known hr h2, if_neg (by decide)]
        refine RE.retB rfl (ps := [rsO _ n most _]) ⟨by rw [hpe]; rfl, rfl⟩ ?_
        rw [kPut, hpe, if_neg (by decide)]
        exact hS.pick [0, 2] (by decide) rfl
      · skip
        have h2 : id ∉ kIds l := fun e => of_decide_eq_false h2 (ixOf_mem.2 e)
        have he := kErr_ok0 hr h2
        obtain ⟨b2, sp, cap, hb, hl, hS⟩ := rsO_open hS
        cases hb
        refine RC.seq ?_
        refine RC.drawn 11 [0, 1, 2, 3, 4, 5, 6, 7, 8, 9, 10] (Same _) (by kernel_rfl) (by kernel_rfl) Same.drew (fun hh => ?_)
        replace hS := hS.drew
        refine RH.q hh (Calm.sq (Calm.bk (Calm.sq Calm.body))) rfl (by kernel_rfl) (Qt.mv rfl) ?_
        refine RH.q hh (Calm.sq (Calm.bk (Calm.sq Calm.body))) rfl (by kernel_rfl) (Qt.nil rfl) ?_
        refine RH.q hh (Calm.sq (Calm.bk (Calm.sq Calm.body))) rfl (by kernel_rfl) (Qt.fld rfl) ?_
        refine RH.q hh (Calm.sq (Calm.bk (Calm.sq Calm.body))) rfl (by kernel_rfl) (Qt.ld rfl (by exact hS.at 0 rfl) (by first  | rfl)) ?_
        refine RH.q hh (Calm.sq (Calm.bk (Calm.sq Calm.body))) rfl (by kernel_rfl) (Qt.lenS rfl) ?_
        refine RH.q hh (Calm.sq (Calm.bk (Calm.sq Calm.body))) rfl (by kernel_rfl) (Qt.mv rfl) ?_
        refine RH.q hh (Calm.sq (Calm.bk (Calm.sq Calm.body))) rfl (by kernel_rfl) (Qt.nil rfl) ?_
        refine RH.q hh (Calm.sq (Calm.bk (Calm.sq Calm.body))) rfl (by kernel_rfl) (Qt.fld rfl) ?_
        refine RH.q hh (Calm.sq (Calm.bk (Calm.sq Calm.body))) rfl (by kernel_rfl) (Qt.ld rfl (by exact hS.at 0 rfl) (by first  | rfl)) ?_
        refine RH.q hh (Calm.sq (Calm.bk (Calm.sq Calm.body))) rfl (by kernel_rfl) (Qt.geq rfl rfl) ?_
        refine RH.q hh (Calm.sq (Calm.bk (Calm.sq Calm.body))) rfl (by kernel_rfl) (Qt.as rfl) ?_
        refine RH.done hh (by kernel_rfl) ?_
        refine RL.nil ?_
        refine RE.sqN ?_
        refine RC.cond rfl (fun h3 => ?_) (fun h3 => ?_)
        · refine RC.seq ?_
          refine RC.region rfl ?_
          refine RL.q (Qt.as rfl) ?_
          refine RL.nil ?_
          refine RE.sqN ?_
          refine RC.ret ?_
          refine RE.bkR ?_
          refine RE.sqR ?_
          have h3 : (l.length : Int) ≥ most := of_decide_eq_true h3
          have hpe : kPutErr l n most id k = 4 := by rw [kPutErr, he, if_pos rfl, if_pos h3]
          refine RE.retB rfl (ps := [rsO _ n most _]) ⟨by rw [hpe]; rfl, rfl⟩ ?_
          rw [kPut, hpe, if_neg (by decide)]
          exact rsO_shut hl (hS.pick [0, 1, 3] (by decide) rfl)
        · skip
          have h3 : ¬ (l.length : Int) ≥ most := of_decide_eq_false h3
          have hpe : kPutErr l n most id k = 0 := by rw [kPutErr, he, if_pos rfl, if_neg h3]
          have hS := rsO_shut hl hS
          refine RC.skip ?_
          refine RE.bkN ?_
          refine RE.sqN ?_
          refine RC.seq ?_
          refine RC.region rfl ?_
          refine RL.q (Qt.mv rfl) ?_
          refine RL.q (Qt.mv rfl) ?_
          refine RL.q (Qt.ldA rfl (by exact hS.at 1 rfl) (by exact hkx) (by exact Nat.le_of_ble_eq_true rfl)) ?_
          refine RL.q (Qt.bldV [.tmp 43, .tmp 44] rfl rfl (by kernel_rfl)) ?_
          refine RL.e (Ef.call hS (rsPut0 _ n most l ⟨id, k⟩ hlen) rfl rfl Try.call99 [0] [1, 2] (by decide) rfl rfl) ?_
          rintro v46 w ⟨ps, ⟨rfl, rfl⟩, hS⟩
          refine RL.nil ?_
          refine RE.sqN ?_
          refine RC.seq ?_
          refine RC.region rfl ?_
          refine RL.q (Qt.as rfl) ?_
          refine RL.nil ?_
          refine RE.sqN ?_
          refine RC.ret ?_
          refine RE.retB rfl (ps := [rsO _ n most _]) ⟨by rw [hpe]; rfl, rfl⟩ ?_
          rw [kPut, if_pos hpe]
          exact hS.pick [0, 2] (by decide) rfl
end Go.Proofs

/- The reference's set of layer 10: Change, Remove, Top, Take, Key, New. -/
namespace Go.Proofs
open Go Go.Gx
variable {oo : World}

theorem kix_in {l : List KItem} {id : Int} (h : id ∈ kIds l) : 0 ≤ ixOf (l.map KItem.id) id ∧ ixOf (l.map KItem.id) id < l.length := by
  have := ixOf_range (l.map KItem.id) id
  rw [List.length_map] at this
  exact ⟨ixOf_mem.2 h, this.2⟩
theorem kix_id {l : List KItem} {id : Int} (h : id ∈ kIds l) (hlt : (ixOf (l.map KItem.id) id).toNat < l.length) : l[(ixOf (l.map KItem.id) id).toNat].id = id := by
  rcases ixOf_spec (l.map KItem.id) id with ⟨h1, _⟩ | ⟨i, hi, h1, h2, _⟩
  · exact absurd h h1
  · simp only [h1, Int.toNat_natCast]
    simpa using h2
theorem kix_key {l : List KItem} (hn : (kIds l).Nodup) {id : Int} (h : id ∈ kIds l) (hlt : (ixOf (l.map KItem.id) id).toNat < l.length) : l[(ixOf (l.map KItem.id) id).toNat].k = kGetK l id := by
  have h1 := kGetK_some hn (List.getElem_mem hlt)
  rw [kix_id h hlt] at h1
  exact h1.1.symm

set_option maxHeartbeats 2000000 in
theorem rsChange (p : Value) (n : Nat) (most : Int) (l : List KItem) (id : Int) (k : KKey) (hlen : l.length < 1000000) (hnd : (kIds l).Nodup) : Ct Try.prog 83 #[p, .int .i64 id, .agg k.cells.toArray] [rsO p n most l] (fun v ps => v = .int .i64 (kErr l n id (kRight k) true) ∧ ps = [rsO p n most (kChg l n id k)]) := by
  refine Ct.enter Try.func83 rfl (Nat.le_of_ble_eq_true rfl) ?_
  intro oo w R hS
  change RC _ _ _ _ _ _ [(0, _), (1, _), (2, _)] _
  obtain ⟨b, sp, cap, rfl, hl, hS⟩ := rsO_open hS
  have hkx : k.cells.toArray.extract 0 (0 + 3) = k.cells.toArray := rfl
  refine RC.seq ?_
  refine RC.region rfl ?_
  refine RL.e (Ef.box hS rfl) ?_
  rintro _ w ⟨b5, rfl, hS⟩
  try simp (disch := omega) only [cells_agg'] at hS
  refine RL.q (Qt.as rfl) ?_
  refine RL.nil ?_
  refine RE.sqN ?_
  refine RC.seq ?_
  refine RC.block ?_
  refine RC.seq ?_
  refine RC.region rfl ?_
  refine RL.q (Qt.mv rfl) ?_
  refine RL.q (Qt.eqlN rfl rfl) ?_
  refine RL.q (Qt.as rfl) ?_
  refine RL.nil ?_
  refine RE.sqN ?_
  by_cases hr : id < 0 ∨ id ≥ n
  · have hg := krange_or hr
    refine RC.condF rfl (rfl) ?_
    refine RC.seq ?_
    refine RC.region rfl ?_
    refine RL.q (Qt.mv rfl) ?_
    refine RL.q (Qt.lss rfl rfl) ?_
    refine RL.q (Qt.mv rfl) ?_
    refine RLG.start 14 false rfl ?_
    refine RLG.q rfl rfl rfl (fun _ => Qt.mv rfl) ?_
    refine RLG.q rfl rfl rfl (fun _ => Qt.mv rfl) ?_
    refine RLG.q rfl rfl rfl (fun _ => Qt.nil rfl) ?_
    refine RLG.q rfl rfl rfl (fun _ => Qt.fld rfl) ?_
    refine RLG.q rfl rfl rfl (fun hg => by (try simp only [decide_eq_false_iff_not] at hg); exact Qt.ld rfl (by exact hS.at 1 rfl) (by first  | rfl)) ?_
    refine RLG.q rfl rfl rfl (fun hg => by (try simp only [decide_eq_false_iff_not] at hg); exact Qt.geq rfl rfl) ?_
    refine RLG.or rfl rfl ?_
    refine RL.q (Qt.mv rfl) ?_
    refine RL.s (Skips.guard rfl rfl rfl (hg)) ?_
    refine RL.s (Skips.guard rfl rfl rfl (hg)) ?_
    refine RL.s (Skips.guard rfl rfl rfl (hg)) ?_
    refine RL.q ((by exact Qt.pickT rfl (by assumption) rfl)) ?_
    refine RL.q (Qt.as rfl) ?_
    refine RL.nil ?_
    refine RE.sqN ?_
    refine RC.condT rfl (rfl) ?_
    refine RC.seq ?_
    refine RC.region rfl ?_
    refine RL.q (Qt.as rfl) ?_
    refine RL.nil ?_
    refine RE.sqN ?_
    refine RC.ret ?_
    refine RE.bkR ?_
    refine RE.sqR ?_
    have he : kErr l n id (kRight k) true = 2 := kErr_range (by omega)
    refine RE.retB rfl (ps := [rsO _ n most _]) ⟨by rw [he]; rfl, rfl⟩ ?_
    rw [kChg, he, if_neg (fun e => absurd e.1 (by decide))]
    exact rsO_shut hl (hS.pick [1, 2, 3] (by decide) rfl)
  · have hg := krange_nor hr
    refine RC.condF rfl (rfl) ?_
    refine RC.seq ?_
    refine RC.region rfl ?_
    refine RL.q (Qt.mv rfl) ?_
    refine RL.q (Qt.lss rfl rfl) ?_
    refine RL.q (Qt.mv rfl) ?_
    refine RLG.start 14 false rfl ?_
    refine RLG.q rfl rfl rfl (fun _ => Qt.mv rfl) ?_
    refine RLG.q rfl rfl rfl (fun _ => Qt.mv rfl) ?_
    refine RLG.q rfl rfl rfl (fun _ => Qt.nil rfl) ?_
    refine RLG.q rfl rfl rfl (fun _ => Qt.fld rfl) ?_
    refine RLG.q rfl rfl rfl (fun hg => by (try simp only [decide_eq_false_iff_not] at hg); exact Qt.ld rfl (by exact hS.at 1 rfl) (by first  | rfl)) ?_
    refine RLG.q rfl rfl rfl (fun hg => by (try simp only [decide_eq_false_iff_not] at hg); exact Qt.geq rfl rfl) ?_
    refine RLG.or rfl rfl ?_
    refine RL.q (Qt.mv rfl) ?_
    refine RL.q (Qt.ldA rfl (by exact hS.at 0 rfl) (by exact hkx) (by exact Nat.le_of_ble_eq_true rfl)) ?_ (Runs.guard rfl rfl rfl (hg))
    refine RL.e (Ef.call hS (rkRight k) rfl rfl Try.call81 [] [0, 1, 2, 3] (by decide) rfl rfl) ?_ (Runs.guard rfl rfl rfl (hg))
    rintro v24 w ⟨ps, ⟨rfl, rfl⟩, hS⟩
    try rw [List.nil_append] at hS
    refine RL.q (Qt.not rfl) ?_ (Runs.guard rfl rfl rfl (hg))
    refine RL.q ((by exact Qt.pickF rfl (by assumption) rfl)) ?_
    refine RL.q (Qt.as rfl) ?_
    refine RL.nil ?_
    refine RE.sqN ?_
    refine RC.cond rfl (fun h => ?_) (fun h => ?_)
    · refine RC.seq ?_
      refine RC.region rfl ?_
      refine RL.q (Qt.as rfl) ?_
      refine RL.nil ?_
      refine RE.sqN ?_
      refine RC.ret ?_
      refine RE.bkR ?_
      refine RE.sqR ?_
      have h : kRight k = false := by simpa using h
      have he : kErr l n id (kRight k) true = 2 := kErr_range (.inr (.inr h))
      refine RE.retB rfl (ps := [rsO _ n most _]) ⟨by rw [he]; rfl, rfl⟩ ?_
      rw [kChg, he, if_neg (fun e => absurd e.1 (by decide))]
      exact rsO_shut hl (hS.pick [1, 2, 3] (by decide) rfl)
    · skip
      have h : kRight k = true := by simpa using h
      have hr : ¬ (id < 0 ∨ id ≥ n ∨ kRight k = false) := by rw [h]; simpa using hr
      have hS := rsO_shut hl (hS.pick [1, 2, 0, 3] (by decide) rfl)
      refine RC.seq ?_
      refine RC.region rfl ?_
      refine RL.q (Qt.mv rfl) ?_
      refine RL.q (Qt.mv rfl) ?_
      refine RL.e (Ef.call hS (rsAt _ n most l id) rfl rfl Try.call92 [0] [1, 2] (by decide) rfl rfl) ?_
      rintro v30 w ⟨ps, ⟨rfl, rfl⟩, hS⟩
      refine RL.q (Qt.lss rfl rfl) ?_
      refine RL.q (Qt.as rfl) ?_
      refine RL.nil ?_
      refine RE.sqN ?_
      refine RC.cond rfl (fun h2 => ?_) (fun h2 => ?_)
      · refine RC.seq ?_
        refine RC.region rfl ?_
        refine RL.q (Qt.as rfl) ?_
        refine RL.nil ?_
        refine RE.sqN ?_
        refine RC.ret ?_
        refine RE.bkR ?_
        refine RE.sqR ?_
        have h2 : id ∉ kIds l := ixOf_neg.1 (of_decide_eq_true h2)
        have he := kErr_none hr h2
        refine RE.retB rfl (ps := [rsO _ n most _]) ⟨by rw [he]; rfl, rfl⟩ ?_
        rw [kChg, he, if_neg (fun e => absurd e.1 (by decide))]
        exact hS.pick [0, 2] (by decide) rfl
      · skip
        have h2 : id ∈ kIds l := ixOf_mem.1 (Int.not_lt.1 (of_decide_eq_false h2))
        have he := kErr_ok1 hr h2
        have hix := kix_in h2
        have hlt : (ixOf (l.map KItem.id) id).toNat < l.length := by omega
        have hkk := kix_key hnd h2 hlt
        have hel : (l.eraseIdx (ixOf (l.map KItem.id) id).toNat) = kout l id := kout_erase hnd h2
        have hol := kout_len hnd h2
        refine RC.skip ?_
        refine RE.bkN ?_
        refine RE.sqN ?_
        refine RC.seq ?_
        refine RC.region rfl ?_
        refine RL.q (Qt.mv rfl) ?_
        refine RL.q (Qt.mv rfl) ?_
        refine RL.e (Ef.call hS (rsAt _ n most l id) rfl rfl Try.call92 [0] [1, 2] (by decide) rfl rfl) ?_
        rintro v34 w ⟨ps, ⟨rfl, rfl⟩, hS⟩
        obtain ⟨b2, sp, cap, hb, hl, hS⟩ := rsO_open hS
        cases hb
        have hS1 := hS
        obtain ⟨bs, cap', c, hv, hc1, hc2, hc3, hc4, hS⟩ := hS.ownPos 1 rfl (by omega)
        cases hv
        have hrow := row_part (f := KItem.cells) (sz := 4) (vs := (kGetK l id).cells.toArray) (a := 1) (n := 3) (fun _ => rfl) hc4 rfl (by rw [hc1]; exact Nat.mul_le_mul_right _ hc2) hlt (by rw [← hkk]; rfl) (by decide) (k := 0 + (ixOf (l.map KItem.id) id).toNat * 4 + 1) (by omega) rfl
        refine RL.q (Qt.as rfl) ?_
        refine RL.nil ?_
        refine RE.sqN ?_
        refine RC.seq ?_
        refine RC.seq ?_
        refine RC.drawn 10 [0, 1, 2, 3, 4, 5, 6, 7, 8, 9] (Same _) (by kernel_rfl) (by kernel_rfl) Same.drew (fun hh => ?_)
        replace hS := hS.drew
        refine RH.q hh (Calm.sq (Calm.sq Calm.body)) rfl (by kernel_rfl) (Qt.mv rfl) ?_
        refine RH.q hh (Calm.sq (Calm.sq Calm.body)) rfl (by kernel_rfl) (Qt.nil rfl) ?_
        refine RH.q hh (Calm.sq (Calm.sq Calm.body)) rfl (by kernel_rfl) (Qt.fld rfl) ?_
        refine RH.q hh (Calm.sq (Calm.sq Calm.body)) rfl (by kernel_rfl) (Qt.ld rfl (by exact hS.at 0 rfl) (by first  | rfl)) ?_
        refine RH.q hh (Calm.sq (Calm.sq Calm.body)) rfl (by kernel_rfl) (Qt.mv rfl) ?_
        refine RH.q hh (Calm.sq (Calm.sq Calm.body)) rfl (by kernel_rfl) (Qt.ixS rfl rfl (by omega) (by omega)) ?_
        refine RH.q hh (Calm.sq (Calm.sq Calm.body)) rfl (by kernel_rfl) (Qt.fld rfl) ?_
        refine RH.q hh (Calm.sq (Calm.sq Calm.body)) rfl (by kernel_rfl) (Qt.ldA rfl (by exact hS.at 1 rfl) (by exact hrow) (by omega)) ?_
        refine RH.q hh (Calm.sq (Calm.sq Calm.body)) rfl (by kernel_rfl) (Qt.ldA rfl (by exact hS.at 2 rfl) (by exact hkx) (by exact Nat.le_of_ble_eq_true rfl)) ?_
        refine RH.q hh (Calm.sq (Calm.sq Calm.body)) rfl (by kernel_rfl) (Qt.neqT rfl rfl (keyEq (kGetK l id) k)) ?_
        refine RH.done hh (by kernel_rfl) ?_
        refine RL.nil ?_
        refine RE.sqN ?_
        have hS := rsO_shut hl hS1.drew
        refine RC.cond rfl (fun h3 => ?_) (fun h3 => ?_)
        · skip
          have h3 : kGetK l id ≠ k := by simpa using h3
          refine RC.seq ?_
          refine RC.region rfl ?_
          refine RL.q (Qt.mv rfl) ?_
          refine RL.q (Qt.mv rfl) ?_
          refine RL.e (Ef.call hS (rsOut _ n most l _ hix.1 hix.2) rfl rfl Try.call93 [0] [1, 2] (by decide) rfl rfl) ?_
          rintro v47 w ⟨ps, ⟨rfl, rfl⟩, hS⟩
          rw [hel] at hS
          refine RL.nil ?_
          refine RE.sqN ?_
          refine RC.region rfl ?_
          refine RL.q (Qt.mv rfl) ?_
          refine RL.q (Qt.mv rfl) ?_
          refine RL.q (Qt.ldA rfl (by exact hS.at 1 rfl) (by exact hkx) (by exact Nat.le_of_ble_eq_true rfl)) ?_
          refine RL.q (Qt.bldV [.tmp 49, .tmp 50] rfl rfl (by kernel_rfl)) ?_
          refine RL.e (Ef.call hS (rsPut0 _ n most (kout l id) ⟨id, k⟩ (by omega)) rfl rfl Try.call99 [0] [1, 2] (by decide) rfl rfl) ?_
          rintro v52 w ⟨ps, ⟨rfl, rfl⟩, hS⟩
          refine RL.nil ?_
          refine RE.sqN ?_
          refine RC.seq ?_
          refine RC.region rfl ?_
          refine RL.q (Qt.as rfl) ?_
          refine RL.nil ?_
          refine RE.sqN ?_
          refine RC.ret ?_
          refine RE.retB rfl (ps := [rsO _ n most _]) ⟨by rw [he]; rfl, rfl⟩ ?_
          rw [kChg, if_pos ⟨he, h3⟩]
          exact hS.pick [0, 2] (by decide) rfl
        · refine RC.skip ?_
          refine RE.sqN ?_
          refine RC.seq ?_
          refine RC.region rfl ?_
          refine RL.q (Qt.as rfl) ?_
          refine RL.nil ?_
          refine RE.sqN ?_
          refine RC.ret ?_
          have h3 : kGetK l id = k := by simpa using h3
          refine RE.retB rfl (ps := [rsO _ n most _]) ⟨by rw [he]; rfl, rfl⟩ ?_
          rw [kChg, if_neg (fun e => e.2 h3)]
          exact hS.pick [0, 2] (by decide) rfl

set_option maxHeartbeats 2000000 in
theorem rsRemove (p : Value) (n : Nat) (most : Int) (l : List KItem) (id : Int) (hnd : (kIds l).Nodup) : Ct Try.prog 74 #[p, .int .i64 id] [rsO p n most l] (fun v ps => v = .int .i64 (kErr l n id true true) ∧ ps = [rsO p n most (kRem l n id)]) := by
  refine Ct.enter Try.func74 rfl (Nat.le_of_ble_eq_true rfl) ?_
  intro oo w R hS
  change RC _ _ _ _ _ _ [(0, _), (1, _)] _
  obtain ⟨b, sp, cap, rfl, hl, hS⟩ := rsO_open hS
  refine RC.seq ?_
  refine RC.region rfl ?_
  refine RL.q (Qt.as rfl) ?_
  refine RL.nil ?_
  refine RE.sqN ?_
  refine RC.seq ?_
  refine RC.block ?_
  refine RC.seq ?_
  refine RC.region rfl ?_
  refine RL.q (Qt.mv rfl) ?_
  refine RL.q (Qt.eqlN rfl rfl) ?_
  refine RL.q (Qt.as rfl) ?_
  refine RL.nil ?_
  refine RE.sqN ?_
  refine RC.condF rfl (rfl) ?_
  refine RC.seq ?_
  refine RC.region rfl ?_
  refine RL.q (Qt.mv rfl) ?_
  refine RL.q (Qt.lss rfl rfl) ?_
  refine RL.q (Qt.mv rfl) ?_
  refine RLG.start 11 false rfl ?_
  refine RLG.q rfl rfl rfl (fun _ => Qt.mv rfl) ?_
  refine RLG.q rfl rfl rfl (fun _ => Qt.mv rfl) ?_
  refine RLG.q rfl rfl rfl (fun _ => Qt.nil rfl) ?_
  refine RLG.q rfl rfl rfl (fun _ => Qt.fld rfl) ?_
  refine RLG.q rfl rfl rfl (fun hg => by (try simp only [decide_eq_false_iff_not] at hg); exact Qt.ld rfl (by exact hS.at 0 rfl) (by first  | rfl)) ?_
  refine RLG.q rfl rfl rfl (fun hg => by (try simp only [decide_eq_false_iff_not] at hg); exact Qt.geq rfl rfl) ?_
  refine RLG.or rfl rfl ?_
  refine RL.q (Qt.as rfl) ?_
  refine RL.nil ?_
  refine RE.sqN ?_
  have hS := rsO_shut hl hS
  refine RC.cond rfl (fun h => ?_) (fun h => ?_)
  · refine RC.seq ?_
    refine RC.region rfl ?_
    refine RL.q (Qt.as rfl) ?_
    refine RL.nil ?_
    refine RE.sqN ?_
    refine RC.ret ?_
    refine RE.bkR ?_
    refine RE.sqR ?_
    have h : id < 0 ∨ id ≥ n := by simpa using h
    have he : kErr l n id true true = 2 := kErr_range (by omega)
    refine RE.retB rfl (ps := [rsO _ n most _]) ⟨by rw [he]; rfl, rfl⟩ ?_
    rw [kRem, he, if_neg (by decide)]
    exact hS
  · skip
    have h : ¬ (id < 0 ∨ id ≥ n) := by simpa using h
    have hr : ¬ (id < 0 ∨ id ≥ n ∨ true = false) := by simpa using h
    refine RC.seq ?_
    refine RC.region rfl ?_
    refine RL.q (Qt.mv rfl) ?_
    refine RL.q (Qt.mv rfl) ?_
    refine RL.e (Ef.call hS (rsAt _ n most l id) rfl rfl Try.call92 [0] [1] (by decide) rfl rfl) ?_
    rintro v22 w ⟨ps, ⟨rfl, rfl⟩, hS⟩
    refine RL.q (Qt.lss rfl rfl) ?_
    refine RL.q (Qt.as rfl) ?_
    refine RL.nil ?_
    refine RE.sqN ?_
    refine RC.cond rfl (fun h2 => ?_) (fun h2 => ?_)
    · refine RC.seq ?_
      refine RC.region rfl ?_
      refine RL.q (Qt.as rfl) ?_
      refine RL.nil ?_
      refine RE.sqN ?_
      refine RC.ret ?_
      refine RE.bkR ?_
      refine RE.sqR ?_
      have h2 : id ∉ kIds l := ixOf_neg.1 (of_decide_eq_true h2)
      have he := kErr_none hr h2
      refine RE.retB rfl (ps := [rsO _ n most _]) ⟨by rw [he]; rfl, rfl⟩ ?_
      rw [kRem, he, if_neg (by decide)]
      exact hS
    · skip
      have h2 : id ∈ kIds l := ixOf_mem.1 (Int.not_lt.1 (of_decide_eq_false h2))
      have he := kErr_ok1 hr h2
      have hix := kix_in h2
      have hel : (l.eraseIdx (ixOf (l.map KItem.id) id).toNat) = kout l id := kout_erase hnd h2
      refine RC.skip ?_
      refine RE.bkN ?_
      refine RE.sqN ?_
      refine RC.seq ?_
      refine RC.region rfl ?_
      refine RL.q (Qt.mv rfl) ?_
      refine RL.q (Qt.mv rfl) ?_
      refine RL.q (Qt.mv rfl) ?_
      refine RL.e (Ef.call hS (rsAt _ n most l id) rfl rfl Try.call92 [0] [1] (by decide) rfl rfl) ?_
      rintro v27 w ⟨ps, ⟨rfl, rfl⟩, hS⟩
      refine RL.e (Ef.call hS (rsOut _ n most l _ hix.1 hix.2) rfl rfl Try.call93 [0] [1] (by decide) rfl rfl) ?_
      rintro v28 w ⟨ps, ⟨rfl, rfl⟩, hS⟩
      rw [hel] at hS
      refine RL.nil ?_
      refine RE.sqN ?_
      refine RC.seq ?_
      refine RC.region rfl ?_
      refine RL.q (Qt.as rfl) ?_
      refine RL.nil ?_
      refine RE.sqN ?_
      refine RC.ret ?_
      refine RE.retB rfl (ps := [rsO _ n most _]) ⟨by rw [he]; rfl, rfl⟩ ?_
      rw [kRem, if_pos he]
      exact hS

set_option maxHeartbeats 2000000 in
theorem rsTop (p : Value) (n : Nat) (most : Int) (l : List KItem) : Ct Try.prog 75 #[p] [rsO p n most l] (fun v ps => v = .tuple #[.int .i64 (kTopId l), .agg (kTopK l).cells.toArray, .bool (kTopOk l)] ∧ ps = [rsO p n most l]) := by
  refine Ct.enter Try.func75 rfl (Nat.le_of_ble_eq_true rfl) ?_
  intro oo w R hS
  change RC _ _ _ _ _ _ [(0, _)] _
  obtain ⟨b, sp, cap, rfl, hl, hS⟩ := rsO_open hS
  refine RC.seq ?_
  refine RC.region rfl ?_
  refine RL.q (Qt.as rfl) ?_
  refine RL.e (Ef.alloc hS) ?_
  rintro _ w ⟨b3, rfl, hS⟩
  try simp (disch := omega) only [cells_agg'] at hS
  refine RL.q (Qt.as rfl) ?_
  refine RL.nil ?_
  refine RE.sqN ?_
  refine RC.seq ?_
  refine RC.seq ?_
  refine RC.region rfl ?_
  refine RL.q (Qt.mv rfl) ?_
  refine RL.q (Qt.eqlN rfl rfl) ?_
  refine RL.q (Qt.mv rfl) ?_
  refine RLG.start 7 false rfl ?_
  refine RLG.q rfl rfl rfl (fun _ => Qt.mv rfl) ?_
  refine RLG.q rfl rfl rfl (fun _ => Qt.nil rfl) ?_
  refine RLG.q rfl rfl rfl (fun _ => Qt.fld rfl) ?_
  refine RLG.q rfl rfl rfl (fun hg => by (try simp only [Option.isNone_some] at hg); exact Qt.ld rfl (by exact hS.at 1 rfl) (by first  | rfl)) ?_
  refine RLG.q rfl rfl rfl (fun _ => Qt.lenS rfl) ?_
  refine RLG.q rfl rfl rfl (fun hg => by (try simp only [Option.isNone_some] at hg); exact Qt.eql rfl rfl) ?_
  refine RLG.or rfl rfl ?_
  refine RL.nil ?_
  refine RE.sqN ?_
  refine RC.cond rfl (fun h => ?_) (fun h => ?_)
  · refine RC.seq ?_
    refine RC.region rfl ?_
    refine RL.q (Qt.bldV [.const (Go.Value.bool false), .const (Go.Value.int Go.IntKind.u64 0), .const (Go.Value.int Go.IntKind.u8 0)] rfl rfl (by kernel_rfl)) ?_
    refine RL.q (Qt.as rfl) ?_
    refine RL.e0 (Ef.st hS 0 rfl rfl rfl (by rfl) (by rfl) (by exact Nat.le_of_ble_eq_true rfl)) ?_
    intro _ w hS
    simp (disch := omega) only [List.set_cons_zero, List.set_cons_succ, cells_agg', Nat.zero_add, wr, List.setIfInBounds_toArray] at hS
    refine RL.q (Qt.as rfl) ?_
    refine RL.nil ?_
    refine RE.sqN ?_
    refine RC.ret ?_
    refine RE.sqR ?_
    have h : l.length = 0 := by
      have : (l.length : Int) = 0 := by simpa using h
      omega
    obtain rfl := List.length_eq_zero_iff.1 h
    exact RE.retW (vs := [.int .i64 0, .agg KKey.none.cells.toArray, .bool false]) (by repeat (first | exact ResW.nil | refine ResW.tmp rfl ?_ | refine ResW.cell (by infer_instance) rfl rfl (by exact hS.get 0 rfl) rfl (Nat.le_of_ble_eq_true rfl) ?_)) ⟨rfl, rfl⟩ (rsO_shut hl (hS.pick [1, 2, 3] (by decide) rfl))
  · skip
    have h : 0 < l.length := by
      have : ¬ (l.length : Int) = 0 := by simpa using h
      omega
    have hS0 := hS
    obtain ⟨bs, cap', c, hv, hc1, hc2, hc3, hc4, hS⟩ := hS.ownPos 2 rfl (by omega)
    cases hv
    have hrow := row_part (f := KItem.cells) (sz := 4) (vs := l[0].k.cells.toArray) (a := 1) (n := 3) (fun _ => rfl) hc4 rfl (by rw [hc1]; exact Nat.mul_le_mul_right _ hc2) h rfl (by decide) (k := 0 + (0 : Int).toNat * 4 + 1) (by omega) rfl
    refine RC.skip ?_
    refine RE.sqN ?_
    refine RC.seq ?_
    refine RC.drawn 17 [0, 1, 2, 3, 4, 5, 6, 7, 8, 9, 10, 11, 12, 13, 14, 15, 16] (fun w' => w'.heap[b]? = some (.cells #[.int .i64 n, .int .i64 most, .slice (some ⟨bs, 0, none⟩) l.length cap] 107 (0, 0)) ∧ w'.heap[bs]? = some (.cells c 133 (0, 0))) (by kernel_rfl) (by kernel_rfl) (⟨by exact hS.drew.get 1 rfl, by exact hS.drew.get 2 rfl⟩) (fun hh => ?_)
    replace hS := hS.drew
    refine RH.q hh (Calm.sq Calm.body) rfl (by kernel_rfl) (Qt.mv rfl) ?_
    refine RH.q hh (Calm.sq Calm.body) rfl (by kernel_rfl) (Qt.nil rfl) ?_
    refine RH.q hh (Calm.sq Calm.body) rfl (by kernel_rfl) (Qt.fld rfl) ?_
    refine RH.q hh (Calm.sq Calm.body) rfl (by kernel_rfl) (Qt.ld rfl (by exact fun _ h => h.1) (by rfl)) ?_
    refine RH.q hh (Calm.sq Calm.body) rfl (by kernel_rfl) (Qt.ixS rfl rfl (by omega) (by omega)) ?_
    refine RH.q hh (Calm.sq Calm.body) rfl (by kernel_rfl) (Qt.fld rfl) ?_
    refine RH.q hh (Calm.sq Calm.body) rfl (by kernel_rfl) (Qt.ld rfl (by exact fun _ h => h.2) (by exact row_cell (f := KItem.cells) (fun _ => rfl) hc4 rfl h (j := 0) (by decide) rfl (by omega))) ?_
    refine RH.q hh (Calm.sq Calm.body) rfl (by kernel_rfl) (Qt.mv rfl) ?_
    refine RH.q hh (Calm.sq Calm.body) rfl (by kernel_rfl) (Qt.nil rfl) ?_
    refine RH.q hh (Calm.sq Calm.body) rfl (by kernel_rfl) (Qt.fld rfl) ?_
    refine RH.q hh (Calm.sq Calm.body) rfl (by kernel_rfl) (Qt.ld rfl (by exact fun _ h => h.1) (by rfl)) ?_
    refine RH.q hh (Calm.sq Calm.body) rfl (by kernel_rfl) (Qt.ixS rfl rfl (by omega) (by omega)) ?_
    refine RH.q hh (Calm.sq Calm.body) rfl (by kernel_rfl) (Qt.fld rfl) ?_
    refine RH.q hh (Calm.sq Calm.body) rfl (by kernel_rfl) (Qt.ldA rfl (by exact fun _ h => h.2) (by exact hrow) (by omega)) ?_
    refine RH.q hh (Calm.sq Calm.body) rfl (by kernel_rfl) (Qt.as rfl) ?_
    refine RH.e0 hh rfl (by kernel_rfl) (Ef.st hS 0 rfl rfl rfl (by rfl) (by rfl) (by exact Nat.le_of_ble_eq_true rfl)) ?_
    intro _ w hS
    simp (disch := omega) only [List.set_cons_zero, List.set_cons_succ, cells_agg'] at hS
    refine ⟨⟨by exact hS.get 1 rfl, by exact hS.get 2 rfl⟩, ?_⟩
    refine RH.q hh (Calm.sq Calm.body) rfl (by kernel_rfl) (Qt.as rfl) ?_
    refine RH.done hh (by kernel_rfl) ?_
    refine RL.nil ?_
    refine RE.sqN ?_
    refine RC.ret ?_
    have hS := hS.ownMk (cap := cap) (n := l.length) (sz := 4) (cs := l.flatMap KItem.cells) 2 rfl hc1 hc2 hc3 hc4
    cases l with
    | nil => simp at h
    | cons x l => exact RE.retW (vs := [.int .i64 x.id, .agg x.k.cells.toArray, .bool true]) (by repeat (first | exact ResW.nil | refine ResW.tmp rfl ?_ | refine ResW.cell (by infer_instance) rfl rfl (by exact hS.get 0 rfl) rfl (Nat.le_of_ble_eq_true rfl) ?_)) ⟨rfl, rfl⟩ (rsO_shut hl (hS.pick [1, 2, 3] (by decide) rfl))
end Go.Proofs

/- The reference's set of layer 10: Take, Key, New; keys of the program itself. -/
namespace Go.Proofs
open Go Go.Gx
variable {oo : World}

set_option maxHeartbeats 2000000 in
theorem rsTake (p : Value) (n : Nat) (most : Int) (l : List KItem) : Ct Try.prog 84 #[p] [rsO p n most l] (fun v ps => v = .tuple #[.int .i64 (kTopId l), .agg (kTopK l).cells.toArray, .bool (kTopOk l)] ∧ ps = [rsO p n most l.tail]) := by
  refine Ct.enter Try.func84 rfl (Nat.le_of_ble_eq_true rfl) ?_
  intro oo w R hS
  change RC _ _ _ _ _ _ [(0, _)] _
  refine RC.seq ?_
  refine RC.region rfl ?_
  refine RL.q (Qt.as rfl) ?_
  refine RL.e (Ef.alloc hS) ?_
  rintro _ w ⟨b3, rfl, hS⟩
  try simp (disch := omega) only [cells_agg'] at hS
  refine RL.q (Qt.as rfl) ?_
  refine RL.nil ?_
  refine RE.sqN ?_
  refine RC.seq ?_
  refine RC.region rfl ?_
  refine RL.q (Qt.mv rfl) ?_
  refine RL.e (Ef.call hS (rsTop p n most l) rfl rfl Try.call75 [1] [0, 2] (by decide) rfl rfl) ?_
  rintro v10 w ⟨ps, ⟨rfl, rfl⟩, hS⟩
  refine RL.q (Qt.mv rfl) ?_
  refine RL.q (Qt.ext rfl rfl) ?_
  refine RL.q (Qt.ext rfl rfl) ?_
  refine RL.q (Qt.ext rfl rfl) ?_
  refine RL.e (Ef.alloc hS) ?_
  rintro _ w ⟨b6, rfl, hS⟩
  try simp (disch := omega) only [cells_agg'] at hS
  refine RL.q (Qt.as rfl) ?_
  refine RL.e0 (Ef.st hS 0 rfl rfl rfl (by rfl) (by rfl) (by exact Nat.le_of_ble_eq_true rfl)) ?_
  intro _ w hS
  simp (disch := omega) only [List.set_cons_zero, cells_agg'] at hS
  refine RL.q (Qt.as rfl) ?_
  refine RL.nil ?_
  refine RE.sqN ?_
  refine RC.seq ?_
  refine RC.seq ?_
  refine RC.region rfl ?_
  refine RL.q (Qt.mv rfl) ?_
  refine RL.nil ?_
  refine RE.sqN ?_
  have hkx : ∀ k : KKey, (wr #[.bool false, .int .u64 0, .int .u8 0] 0 k.cells).extract 0 (0 + 3) = k.cells.toArray := fun k => rfl
  refine RC.cond rfl (fun h => ?_) (fun h => ?_)
  · skip
    cases l with
    | nil => cases h
    | cons x l =>
      refine RC.region rfl ?_
      refine RL.q (Qt.mv rfl) ?_
      refine RL.e (Ef.call hS (rsOut p n most (x :: l) 0 (by omega) (by simp)) rfl rfl Try.call93 [1] [0, 2, 3] (by decide) rfl rfl) ?_
      rintro v16 w ⟨ps, ⟨rfl, rfl⟩, hS⟩
      refine RL.nil ?_
      refine RE.sqN ?_
      refine RC.seq ?_
      refine RC.drawn 6 [0, 1, 2, 3, 4, 5] (fun w' => w'.heap[b6]? = some (.cells (wr #[.bool false, .int .u64 0, .int .u8 0] 0 (kTopK (x :: l)).cells) 31 (0, 0))) (by kernel_rfl) (by kernel_rfl) ((by exact hS.drew.get 1 rfl)) (fun hh => ?_)
      replace hS := hS.drew
      refine RH.q hh (Calm.sq Calm.body) rfl (by kernel_rfl) (Qt.mv rfl) ?_
      refine RH.q hh (Calm.sq Calm.body) rfl (by kernel_rfl) (Qt.ldA rfl (fun _ h => h) (by exact hkx _) (by exact Nat.le_of_ble_eq_true rfl)) ?_
      refine RH.q hh (Calm.sq Calm.body) rfl (by kernel_rfl) (Qt.mv rfl) ?_
      refine RH.q hh (Calm.sq Calm.body) rfl (by kernel_rfl) (Qt.as rfl) ?_
      refine RH.e0 hh rfl (by kernel_rfl) (Ef.st hS 2 rfl rfl rfl (by rfl) (by rfl) (by exact Nat.le_of_ble_eq_true rfl)) ?_
      intro _ w hS
      simp (disch := omega) only [cells_agg'] at hS
      refine ⟨(by exact hS.get 1 rfl), ?_⟩
      refine RH.q hh (Calm.sq Calm.body) rfl (by kernel_rfl) (Qt.as rfl) ?_
      refine RH.done hh (by kernel_rfl) ?_
      refine RL.nil ?_
      refine RE.sqN ?_
      refine RC.ret ?_
      exact RE.retW (vs := [.int .i64 x.id, .agg x.k.cells.toArray, .bool true]) (by repeat (first | exact ResW.nil | refine ResW.tmp rfl ?_ | refine ResW.cell (by infer_instance) rfl rfl (by exact hS.get 2 rfl) rfl (Nat.le_of_ble_eq_true rfl) ?_)) ⟨rfl, rfl⟩ (hS.pick [0, 3] (by decide) rfl)
  · refine RC.skip ?_
    refine RE.sqN ?_
    refine RC.seq ?_
    refine RC.drawn 6 [0, 1, 2, 3, 4, 5] (fun w' => w'.heap[b6]? = some (.cells (wr #[.bool false, .int .u64 0, .int .u8 0] 0 (kTopK l).cells) 31 (0, 0))) (by kernel_rfl) (by kernel_rfl) ((by exact hS.drew.get 0 rfl)) (fun hh => ?_)
    replace hS := hS.drew
    refine RH.q hh (Calm.sq Calm.body) rfl (by kernel_rfl) (Qt.mv rfl) ?_
    refine RH.q hh (Calm.sq Calm.body) rfl (by kernel_rfl) (Qt.ldA rfl (fun _ h => h) (by exact hkx _) (by exact Nat.le_of_ble_eq_true rfl)) ?_
    refine RH.q hh (Calm.sq Calm.body) rfl (by kernel_rfl) (Qt.mv rfl) ?_
    refine RH.q hh (Calm.sq Calm.body) rfl (by kernel_rfl) (Qt.as rfl) ?_
    refine RH.e0 hh rfl (by kernel_rfl) (Ef.st hS 2 rfl rfl rfl (by rfl) (by rfl) (by exact Nat.le_of_ble_eq_true rfl)) ?_
    intro _ w hS
    simp (disch := omega) only [List.set_cons_succ, cells_agg'] at hS
    refine ⟨(by exact hS.get 0 rfl), ?_⟩
    refine RH.q hh (Calm.sq Calm.body) rfl (by kernel_rfl) (Qt.as rfl) ?_
    refine RH.done hh (by kernel_rfl) ?_
    refine RL.nil ?_
    refine RE.sqN ?_
    refine RC.ret ?_
    cases l with
    | nil => exact RE.retW (vs := [.int .i64 0, .agg KKey.none.cells.toArray, .bool false]) (by repeat (first | exact ResW.nil | refine ResW.tmp rfl ?_ | refine ResW.cell (by infer_instance) rfl rfl (by exact hS.get 2 rfl) rfl (Nat.le_of_ble_eq_true rfl) ?_)) ⟨rfl, rfl⟩ (hS.pick [1, 3] (by decide) rfl)
    | cons x l => cases h

set_option maxHeartbeats 2000000 in
theorem rsKey (p : Value) (n : Nat) (most : Int) (l : List KItem) (id : Int) (hnd : (kIds l).Nodup) : Ct Try.prog 76 #[p, .int .i64 id] [rsO p n most l] (fun v ps => v = .tuple #[.agg (kGetK l id).cells.toArray, .bool (kGetOk l id)] ∧ ps = [rsO p n most l]) := by
  refine Ct.enter Try.func76 rfl (Nat.le_of_ble_eq_true rfl) ?_
  intro oo w R hS
  change RC _ _ _ _ _ _ [(0, _), (1, _)] _
  refine RC.seq ?_
  refine RC.region rfl ?_
  refine RL.e (Ef.alloc hS) ?_
  rintro _ w ⟨b4, rfl, hS⟩
  try simp (disch := omega) only [cells_agg'] at hS
  refine RL.q (Qt.as rfl) ?_
  refine RL.nil ?_
  refine RE.sqN ?_
  refine RC.seq ?_
  refine RC.region rfl ?_
  refine RL.q (Qt.mv rfl) ?_
  refine RL.q (Qt.mv rfl) ?_
  refine RL.e (Ef.call hS (rsAt p n most l id) rfl rfl Try.call92 [1] [0, 2] (by decide) rfl rfl) ?_
  rintro v9 w ⟨ps, ⟨rfl, rfl⟩, hS⟩
  refine RL.q (Qt.as rfl) ?_
  refine RL.nil ?_
  refine RE.sqN ?_
  refine RC.seq ?_
  refine RC.seq ?_
  refine RC.region rfl ?_
  refine RL.q (Qt.mv rfl) ?_
  refine RL.q (Qt.lss rfl rfl) ?_
  refine RL.nil ?_
  refine RE.sqN ?_
  refine RC.cond rfl (fun h => ?_) (fun h => ?_)
  · refine RC.seq ?_
    refine RC.region rfl ?_
    refine RL.q (Qt.bldV [.const (Go.Value.bool false), .const (Go.Value.int Go.IntKind.u64 0), .const (Go.Value.int Go.IntKind.u8 0)] rfl rfl (by kernel_rfl)) ?_
    refine RL.e0 (Ef.st hS 1 rfl rfl rfl (by rfl) (by rfl) (by exact Nat.le_of_ble_eq_true rfl)) ?_
    intro _ w hS
    simp (disch := omega) only [List.set_cons_zero, List.set_cons_succ, cells_agg', Nat.zero_add, wr, List.setIfInBounds_toArray] at hS
    refine RL.q (Qt.as rfl) ?_
    refine RL.nil ?_
    refine RE.sqN ?_
    refine RC.ret ?_
    refine RE.sqR ?_
    have h : id ∉ kIds l := ixOf_neg.1 (of_decide_eq_true h)
    rw [(kGetK_none h).1, (kGetK_none h).2]
    exact RE.retW (vs := [.agg KKey.none.cells.toArray, .bool false]) (by repeat (first | exact ResW.nil | refine ResW.tmp rfl ?_ | refine ResW.cell (by infer_instance) rfl rfl (by exact hS.get 1 rfl) rfl (Nat.le_of_ble_eq_true rfl) ?_)) ⟨rfl, rfl⟩ (hS.pick [0, 2] (by decide) rfl)
  · skip
    have h : id ∈ kIds l := ixOf_mem.1 (Int.not_lt.1 (of_decide_eq_false h))
    have hix := kix_in h
    have hlt : (ixOf (l.map KItem.id) id).toNat < l.length := by omega
    have hkk := kix_key hnd h hlt
    have hok : kGetOk l id = true := decide_eq_true h
    obtain ⟨b, sp, cap, rfl, hl, hS⟩ := rsO_open hS
    have hS0 := hS
    obtain ⟨bs, cap', c, hv, hc1, hc2, hc3, hc4, hS⟩ := hS.ownPos 1 rfl (by omega)
    cases hv
    have hrow := row_part (f := KItem.cells) (sz := 4) (vs := (kGetK l id).cells.toArray) (a := 1) (n := 3) (fun _ => rfl) hc4 rfl (by rw [hc1]; exact Nat.mul_le_mul_right _ hc2) hlt (by rw [← hkk]; rfl) (by decide) (k := 0 + (ixOf (l.map KItem.id) id).toNat * 4 + 1) (by omega) rfl
    refine RC.skip ?_
    refine RE.sqN ?_
    refine RC.seq ?_
    refine RC.region rfl ?_
    refine RL.q (Qt.mv rfl) ?_
    refine RL.q (Qt.nil rfl) ?_
    refine RL.q (Qt.fld rfl) ?_
    refine RL.q (Qt.ld rfl (by exact hS.at 0 rfl) (by first  | rfl)) ?_
    refine RL.q (Qt.mv rfl) ?_
    refine RL.q (Qt.ixS rfl rfl (by omega) (by omega)) ?_
    refine RL.q (Qt.fld rfl) ?_
    refine RL.q (Qt.ldA rfl (by exact hS.at 1 rfl) (by exact hrow) (by omega)) ?_
    refine RL.e0 (Ef.st hS 2 rfl rfl rfl (by rfl) (by rfl) (by exact Nat.le_of_ble_eq_true rfl)) ?_
    intro _ w hS
    simp (disch := omega) only [List.set_cons_zero, List.set_cons_succ, cells_agg'] at hS
    refine RL.q (Qt.as rfl) ?_
    refine RL.nil ?_
    refine RE.sqN ?_
    refine RC.ret ?_
    have hS := hS.ownMk (cap := cap) (n := l.length) (sz := 4) (cs := l.flatMap KItem.cells) 1 rfl hc1 hc2 hc3 hc4
    rw [hok]
    exact RE.retW (vs := [.agg (kGetK l id).cells.toArray, .bool true]) (by repeat (first | exact ResW.nil | refine ResW.tmp rfl ?_ | refine ResW.cell (by infer_instance) rfl rfl (by exact hS.get 2 rfl) rfl (Nat.le_of_ble_eq_true rfl) ?_)) ⟨rfl, rfl⟩ (rsO_shut hl (hS.pick [0, 1, 3] (by decide) rfl))

set_option maxHeartbeats 1000000 in
theorem rsNew (n : Int) (most : Int) (h0 : 1 ≤ n) (h1 : n ≤ 1024) (h2 : 1 ≤ most) (h3 : most ≤ n) : Ct Try.prog 70 #[.int .i64 n, .int .i64 most] [] (fun v ps => ps = [rsO v n.toNat most []]) := by
  refine Ct.enter Try.func70 rfl (Nat.le_of_ble_eq_true rfl) ?_
  intro oo w R hS
  change RC _ _ _ _ _ _ [(0, _), (1, _)] _
  refine RC.seq ?_
  refine RC.region rfl ?_
  refine RL.q (Qt.as rfl) ?_
  refine RL.nil ?_
  refine RE.sqN ?_
  refine RC.seq ?_
  refine RC.seq ?_
  refine RC.region rfl ?_
  refine RL.q (Qt.mv rfl) ?_
  refine RL.q (Qt.lss rfl rfl) ?_
  refine RL.q (Qt.mv rfl) ?_
  refine RLG.start 7 false rfl ?_
  refine RLG.q rfl rfl rfl (fun _ => Qt.mv rfl) ?_
  refine RLG.q rfl rfl rfl (fun hg => by (try simp only [decide_eq_false_iff_not] at hg); exact Qt.gtr rfl rfl) ?_
  refine RLG.or rfl rfl ?_
  refine RL.q (Qt.mv rfl) ?_
  refine RLG.start 11 false rfl ?_
  refine RLG.q rfl rfl rfl (fun _ => Qt.mv rfl) ?_
  refine RLG.q rfl rfl rfl (fun hg => by (try simp only [decide_eq_false_iff_not, Bool.or_eq_false_iff] at hg); exact Qt.lss rfl rfl) ?_
  refine RLG.or rfl rfl ?_
  refine RL.q (Qt.mv rfl) ?_
  refine RLG.start 15 false rfl ?_
  refine RLG.q rfl rfl rfl (fun _ => Qt.mv rfl) ?_
  refine RLG.q rfl rfl rfl (fun _ => Qt.mv rfl) ?_
  refine RLG.q rfl rfl rfl (fun hg => by (try simp only [decide_eq_false_iff_not, Bool.or_eq_false_iff] at hg); exact Qt.gtr rfl rfl) ?_
  refine RLG.or rfl rfl ?_
  refine RL.nil ?_
  refine RE.sqN ?_
  refine RC.condF rfl (by simp; omega) ?_
  refine RC.skip ?_
  refine RE.sqN ?_
  refine RC.seq ?_
  refine RC.region rfl ?_
  refine RL.q (Qt.mv rfl) ?_
  refine RL.q (Qt.mv rfl) ?_
  refine RL.q (Qt.bldV [.tmp 20, .tmp 21, .const (Go.Value.slice none 0 0)] rfl rfl (by kernel_rfl)) ?_
  refine RL.e (Ef.box hS rfl) ?_
  rintro _ w ⟨b23, rfl, hS⟩
  try simp (disch := omega) only [cells_agg'] at hS
  refine RL.q (Qt.as rfl) ?_
  refine RL.nil ?_
  refine RE.sqN ?_
  refine RC.ret ?_
  refine RE.retB rfl (ps := [rsO _ n.toNat most []]) rfl ?_
  refine rsO_shut (s := .slice none 0 0) (by simp) ?_
  have := hS.nilOwn (T := 133) (sz := 4)
  simpa [Int.toNat_of_nonneg (show 0 ≤ n by omega)] using this.pick [1, 0, 2] (by decide) rfl

set_option maxHeartbeats 1000000 in
theorem kyFixed (v : Int) : Ct Try.prog 16 #[.int .u8 v] [] (fun u ps => u = .agg (kFixed v).cells.toArray ∧ ps = []) := by
  refine Ct.enter Try.func16 rfl (Nat.le_of_ble_eq_true rfl) ?_
  intro oo w R hS
  change RC _ _ _ _ _ _ [(0, _)] _
  refine RC.seq ?_
  refine RC.region rfl ?_
  refine RL.e (Ef.alloc hS) ?_
  rintro _ w ⟨b2, rfl, hS⟩
  try simp (disch := omega) only [cells_agg'] at hS
  refine RL.nil ?_
  refine RE.sqN ?_
  refine RC.seq ?_
  refine RC.region rfl ?_
  refine RL.q (Qt.mv rfl) ?_
  refine RL.q (Qt.bldV [.const (Go.Value.bool false), .const (Go.Value.int Go.IntKind.u64 0), .tmp 3] rfl rfl (by kernel_rfl)) ?_
  refine RL.e0 (Ef.st hS 0 rfl rfl rfl (by rfl) (by rfl) (by exact Nat.le_of_ble_eq_true rfl)) ?_
  intro _ w hS
  simp (disch := omega) only [List.set_cons_zero, List.set_cons_succ, cells_agg', Nat.zero_add, wr, List.setIfInBounds_toArray] at hS
  refine RL.nil ?_
  refine RE.sqN ?_
  refine RC.ret ?_
  exact RE.retW (vs := [.agg (kFixed v).cells.toArray]) (by repeat (first | exact ResW.nil | refine ResW.tmp rfl ?_ | refine ResW.cell (by infer_instance) rfl rfl (by exact hS.get 0 rfl) rfl (Nat.le_of_ble_eq_true rfl) ?_)) ⟨rfl, rfl⟩ (hS.pick [1] (by decide) rfl)

set_option maxHeartbeats 1000000 in
theorem kyDead (d : Int) : Ct Try.prog 17 #[.int .u64 d] [] (fun u ps => u = .agg (kDead d).cells.toArray ∧ ps = []) := by
  refine Ct.enter Try.func17 rfl (Nat.le_of_ble_eq_true rfl) ?_
  intro oo w R hS
  change RC _ _ _ _ _ _ [(0, _)] _
  refine RC.seq ?_
  refine RC.region rfl ?_
  refine RL.e (Ef.alloc hS) ?_
  rintro _ w ⟨b2, rfl, hS⟩
  try simp (disch := omega) only [cells_agg'] at hS
  refine RL.nil ?_
  refine RE.sqN ?_
  refine RC.seq ?_
  refine RC.region rfl ?_
  refine RL.q (Qt.mv rfl) ?_
  refine RL.q (Qt.bldV [.const (Go.Value.bool true), .tmp 3, .const (Go.Value.int Go.IntKind.u8 0)] rfl rfl (by kernel_rfl)) ?_
  refine RL.e0 (Ef.st hS 0 rfl rfl rfl (by rfl) (by rfl) (by exact Nat.le_of_ble_eq_true rfl)) ?_
  intro _ w hS
  simp (disch := omega) only [List.set_cons_zero, List.set_cons_succ, cells_agg', Nat.zero_add, wr, List.setIfInBounds_toArray] at hS
  refine RL.nil ?_
  refine RE.sqN ?_
  refine RC.ret ?_
  exact RE.retW (vs := [.agg (kDead d).cells.toArray]) (by repeat (first | exact ResW.nil | refine ResW.tmp rfl ?_ | refine ResW.cell (by infer_instance) rfl rfl (by exact hS.get 0 rfl) rfl (Nat.le_of_ble_eq_true rfl) ?_)) ⟨rfl, rfl⟩ (hS.pick [1] (by decide) rfl)

theorem kRight_dead {k : KKey} : kRight k = (decide (k = kDead k.dl) || decide (k = kFixed k.lv)) := by
  rw [Bool.eq_iff_iff]
  simp only [kRight_iff, Bool.or_eq_true, decide_eq_true_eq]

set_option maxHeartbeats 1000000 in
theorem kyRight (k : KKey) : Ct Try.prog 39 #[.agg k.cells.toArray] [] (fun v ps => v = .bool (kRight k) ∧ ps = []) := by
  refine Ct.enter Try.func39 rfl (Nat.le_of_ble_eq_true rfl) ?_
  intro oo w R hS
  change RC _ _ _ _ _ _ [(0, _)] _
  have hkx : k.cells.toArray.extract 0 (0 + 3) = k.cells.toArray := rfl
  refine RC.seq ?_
  refine RC.region rfl ?_
  refine RL.e (Ef.box hS rfl) ?_
  rintro _ w ⟨b1, rfl, hS⟩
  try simp (disch := omega) only [cells_agg'] at hS
  refine RL.q (Qt.as rfl) ?_
  refine RL.nil ?_
  refine RE.sqN ?_
  refine RC.seq ?_
  by_cases h : k = kDead k.dl
  · have hg : decide (k = kDead k.dl) = true := decide_eq_true h
    refine RC.drawn 13 [0, 1, 2, 3, 4, 5, 6, 7, 8, 9, 10, 11, 12] (fun w' => w'.heap[b1]? = some (.cells k.cells.toArray 31 (0, 0))) (by kernel_rfl) (by kernel_rfl) ((by exact hS.drew.get 0 rfl)) (fun hh => ?_)
    replace hS := hS.drew
    refine RH.q hh (Calm.sq Calm.body) rfl (by kernel_rfl) (Qt.ldA rfl (fun _ h => h) (by exact hkx) (by exact Nat.le_of_ble_eq_true rfl)) ?_
    refine RH.q hh (Calm.sq Calm.body) rfl (by kernel_rfl) (Qt.fld rfl) ?_
    refine RH.q hh (Calm.sq Calm.body) rfl (by kernel_rfl) (Qt.ld rfl (fun _ h => h) (by first  | rfl)) ?_
    refine RH.e hh rfl (by kernel_rfl) (Ef.call hS (kyDead k.dl) rfl rfl Try.call17 [] [0, 1] (by decide) rfl rfl) ?_
    rintro v6 w ⟨ps, ⟨rfl, rfl⟩, hS⟩
    try rw [List.nil_append] at hS
    refine ⟨(by exact hS.get 0 rfl), ?_⟩
    refine RH.q hh (Calm.sq Calm.body) rfl (by kernel_rfl) (Qt.eqlT rfl rfl (keyEq k (kDead k.dl))) ?_
    refine RH.q hh (Calm.sq Calm.body) rfl (by kernel_rfl) (Qt.mv rfl) ?_
    refine RH.s hh (Calm.sq Calm.body) rfl (by kernel_rfl) (Skips.guard rfl rfl rfl (hg)) ?_
    refine RH.s hh (Calm.sq Calm.body) rfl (by kernel_rfl) (Skips.guard rfl rfl rfl (hg)) ?_
    refine RH.s hh (Calm.sq Calm.body) rfl (by kernel_rfl) (Skips.guard rfl rfl rfl (hg)) ?_
    refine RH.s hh (Calm.sq Calm.body) rfl (by kernel_rfl) (Skips.guard rfl rfl rfl (hg)) ?_
    refine RH.s hh (Calm.sq Calm.body) rfl (by kernel_rfl) (Skips.guard rfl rfl rfl (hg)) ?_
    refine RH.q hh (Calm.sq Calm.body) rfl (by kernel_rfl) ((by exact Qt.pickT rfl (by assumption) rfl)) ?_
    refine RH.q hh (Calm.sq Calm.body) rfl (by kernel_rfl) (Qt.as rfl) ?_
    refine RH.done hh (by kernel_rfl) ?_
    refine RL.nil ?_
    refine RE.sqN ?_
    refine RC.ret ?_
    rw [kRight_dead, hg]
    exact RE.retB rfl ⟨rfl, rfl⟩ (hS.pick [1] (by decide) rfl)
  · have hg : decide (k = kDead k.dl) = false := decide_eq_false h
    refine RC.drawn 13 [0, 1, 2, 3, 4, 5, 6, 7, 8, 9, 10, 11, 12] (fun w' => w'.heap[b1]? = some (.cells k.cells.toArray 31 (0, 0))) (by kernel_rfl) (by kernel_rfl) ((by exact hS.drew.get 0 rfl)) (fun hh => ?_)
    replace hS := hS.drew
    refine RH.q hh (Calm.sq Calm.body) rfl (by kernel_rfl) (Qt.ldA rfl (fun _ h => h) (by exact hkx) (by exact Nat.le_of_ble_eq_true rfl)) ?_
    refine RH.q hh (Calm.sq Calm.body) rfl (by kernel_rfl) (Qt.fld rfl) ?_
    refine RH.q hh (Calm.sq Calm.body) rfl (by kernel_rfl) (Qt.ld rfl (fun _ h => h) (by first  | rfl)) ?_
    refine RH.e hh rfl (by kernel_rfl) (Ef.call hS (kyDead k.dl) rfl rfl Try.call17 [] [0, 1] (by decide) rfl rfl) ?_
    rintro v6 w ⟨ps, ⟨rfl, rfl⟩, hS⟩
    try rw [List.nil_append] at hS
    refine ⟨(by exact hS.get 0 rfl), ?_⟩
    refine RH.q hh (Calm.sq Calm.body) rfl (by kernel_rfl) (Qt.eqlT rfl rfl (keyEq k (kDead k.dl))) ?_
    refine RH.q hh (Calm.sq Calm.body) rfl (by kernel_rfl) (Qt.mv rfl) ?_
    refine RH.q hh (Calm.sq Calm.body) rfl (by kernel_rfl) (Qt.ldA rfl (fun _ h => h) (by exact hkx) (by exact Nat.le_of_ble_eq_true rfl)) ?_ (Runs.guard rfl rfl rfl (hg))
    refine RH.q hh (Calm.sq Calm.body) rfl (by kernel_rfl) (Qt.fld rfl) ?_ (Runs.guard rfl rfl rfl (hg))
    refine RH.q hh (Calm.sq Calm.body) rfl (by kernel_rfl) (Qt.ld rfl (fun _ h => h) (by first  | rfl)) ?_ (Runs.guard rfl rfl rfl (hg))
    refine RH.e hh rfl (by kernel_rfl) (Ef.call hS (kyFixed k.lv) rfl rfl Try.call16 [] [0, 1] (by decide) rfl rfl) ?_ (Runs.guard rfl rfl rfl (hg))
    rintro v12 w ⟨ps, ⟨rfl, rfl⟩, hS⟩
    try rw [List.nil_append] at hS
    refine ⟨(by exact hS.get 0 rfl), ?_⟩
    refine RH.q hh (Calm.sq Calm.body) rfl (by kernel_rfl) (Qt.eqlT rfl rfl (keyEq k (kFixed k.lv))) ?_ (Runs.guard rfl rfl rfl (hg))
    refine RH.q hh (Calm.sq Calm.body) rfl (by kernel_rfl) ((by exact Qt.pickF rfl (by assumption) rfl)) ?_
    refine RH.q hh (Calm.sq Calm.body) rfl (by kernel_rfl) (Qt.as rfl) ?_
    refine RH.done hh (by kernel_rfl) ?_
    refine RL.nil ?_
    refine RE.sqN ?_
    refine RC.ret ?_
    rw [kRight_dead, hg]
    exact RE.retB rfl ⟨rfl, rfl⟩ (hS.pick [1] (by decide) rfl)
end Go.Proofs

/- What the reference queue of layer 2 tells, as functions of a list. No program stands here. -/
import Derived.Test.YtlicnplclfclcaaBqP
namespace Go.Proofs
open Go Go.Gx

def ratFrom : List RItem → Int → Int → Int
  | [], _, _ => -1
  | x :: xs, id, k => if x.id = id then k else ratFrom xs id (k + 1)
def rat (l : List RItem) (id : Int) : Int := ratFrom l id 0

/-- The place of the first one of the highest level, from place k on, with what was best so far. -/
def rtopFrom : List RItem → Int → Int → Int → Int
  | [], _, at', _ => at'
  | x :: xs, k, at', lv => if at' < 0 ∨ x.lv > lv then rtopFrom xs (k + 1) k x.lv else rtopFrom xs (k + 1) at' lv
def rtop (l : List RItem) : Int := rtopFrom l 0 (-1) 0

theorem rtopFrom_range (l : List RItem) : ∀ (k at' lv : Int), -1 ≤ at' → at' < k ∨ at' = -1 → 0 ≤ k → -1 ≤ rtopFrom l k at' lv ∧ (rtopFrom l k at' lv < k + l.length ∨ rtopFrom l k at' lv = -1) ∧ (0 ≤ at' ∨ l ≠ [] → 0 ≤ rtopFrom l k at' lv) := by
  induction l with
  | nil => intro k a lv h1 h2 h3; simp only [rtopFrom, List.length_nil]; exact ⟨h1, by omega, fun h => by rcases h with h | h; exact h; exact absurd rfl h⟩
  | cons x l ih =>
    intro k a lv h1 h2 h3
    simp only [rtopFrom, List.length_cons]
    split
    · obtain ⟨g1, g2, g3⟩ := ih (k + 1) k x.lv (by omega) (by omega) (by omega)
      exact ⟨g1, by omega, fun _ => g3 (.inl h3)⟩
    · rename_i hn
      obtain ⟨g1, g2, g3⟩ := ih (k + 1) a lv h1 (by omega) (by omega)
      exact ⟨g1, by omega, fun _ => g3 (.inl (by omega))⟩
theorem rtop_range (l : List RItem) : -1 ≤ rtop l ∧ rtop l < l.length ∧ (l ≠ [] → 0 ≤ rtop l) := by
  obtain ⟨h1, h2, h3⟩ := rtopFrom_range l 0 (-1) 0 (by omega) (by omega) (by omega)
  refine ⟨h1, ?_, fun h => h3 (.inr h)⟩
  unfold rtop
  omega
theorem ratFrom_range (l : List RItem) (id : Int) : ∀ (k : Int), 0 ≤ k → -1 ≤ ratFrom l id k ∧ (ratFrom l id k = -1 ∨ (k ≤ ratFrom l id k ∧ ratFrom l id k < k + l.length)) := by
  induction l with
  | nil => intro k h; simp [ratFrom]
  | cons x l ih =>
    intro k h
    simp only [ratFrom, List.length_cons]
    split
    · exact ⟨by omega, .inr (by omega)⟩
    · obtain ⟨h1, h2⟩ := ih (k + 1) (by omega)
      exact ⟨h1, by omega⟩
theorem rat_range (l : List RItem) (id : Int) : -1 ≤ rat l id ∧ rat l id < l.length := by
  obtain ⟨h1, h2⟩ := ratFrom_range l id 0 (by omega)
  unfold rat
  omega

def rget (l : List RItem) (i : Int) : RItem := (l[i.toNat]?).getD ⟨0, 0⟩
/-- What Top tells. -/
def rTop (l : List RItem) : Value := if rtop l < 0 then .tuple #[.int .u8 0, .int .i64 0, .bool false] else .tuple #[.int .u8 (rget l (rtop l)).lv, .int .i64 (rget l (rtop l)).id, .bool true]

def rLevel (l : List RItem) (id : Int) : Value := if rat l id < 0 then .tuple #[.int .u8 0, .bool false] else .tuple #[.int .u8 (rget l (rat l id)).lv, .bool true]
def rPushErr (l : List RItem) (n : Nat) (id : Int) : Int := if id < 0 ∨ id ≥ n then 2 else if rat l id ≥ 0 then 5 else 0
def rPush (l : List RItem) (n : Nat) (lv id : Int) : List RItem := if rPushErr l n id = 0 then l ++ [⟨id, lv⟩] else l
def rRemErr (l : List RItem) (n : Nat) (id : Int) : Int := if id < 0 ∨ id ≥ n then 2 else if rat l id < 0 then 6 else 0
def rRem (l : List RItem) (n : Nat) (id : Int) : List RItem := if rRemErr l n id = 0 then l.eraseIdx (rat l id).toNat else l
def rPop (l : List RItem) : List RItem := if rtop l < 0 then l else l.eraseIdx (rtop l).toNat
def topLv (l : List RItem) : Int := if rtop l < 0 then 0 else (rget l (rtop l)).lv
def topId (l : List RItem) : Int := if rtop l < 0 then 0 else (rget l (rtop l)).id
def topOk (l : List RItem) : Bool := decide (0 ≤ rtop l)
theorem rTop_eq (l : List RItem) : rTop l = .tuple #[.int .u8 (topLv l), .int .i64 (topId l), .bool (topOk l)] := by
  unfold rTop topLv topId topOk
  by_cases h : rtop l < 0
  · have h1 : ¬ 0 ≤ rtop l := by omega
    simp [h, h1]
  · have h1 : 0 ≤ rtop l := by omega
    simp [h, h1]
def levLv (l : List RItem) (id : Int) : Int := if rat l id < 0 then 0 else (rget l (rat l id)).lv
theorem rLevel_eq (l : List RItem) (id : Int) : rLevel l id = .tuple #[.int .u8 (levLv l id), .bool (decide (0 ≤ rat l id))] := by
  unfold rLevel levLv
  by_cases h : rat l id < 0
  · have h1 : ¬ 0 ≤ rat l id := by omega
    simp [h, h1]
  · have h1 : 0 ≤ rat l id := by omega
    simp [h, h1]
end Go.Proofs

/- Words of this claim's own: lists tested by a test that may stop. No condition. -/
import Derived.RowKit
import Derived.Laws.AppendOwn
namespace Go.Proofs.YtchlnmkjfjdamaaHw
/-- Does the test hold of some element? The first that it holds of ends the search; a test that tells nothing (none) ends it with nothing. -/
def anyO {α : Type} (p : α → Option Bool) : List α → Option Bool
  | [] => some false
  | x :: xs => (p x).bind fun b => if b = true then some true else anyO p xs
/-- Does the test hold of all elements? -/
def allO {α : Type} (p : α → Option Bool) : List α → Option Bool
  | [] => some true
  | x :: xs => (p x).bind fun b => if b = true then allO p xs else some false
theorem anyO_not {α : Type} (p : α → Option Bool) (l : List α) (r : Bool) (h : allO p l = some r) : anyO (fun x => (p x).map (!·)) l = some (!r) := by
  induction l with
  | nil => simp only [allO, Option.some.injEq] at h; subst h; rfl
  | cons x xs ih =>
    simp only [allO] at h
    obtain ⟨q, hq, h⟩ := Option.bind_eq_some_iff.mp h
    simp only [anyO, hq, Option.map_some, Option.bind_some]
    cases q with
    | true => simpa using ih (by simpa using h)
    | false => simp at h; subst h; rfl
/-- A string's bytes as numbers. -/
def numsOf (s : ByteArray) : List Int := s.data.toList.map fun b => (b.toNat : Int)
theorem numsOf_length (s : ByteArray) : (numsOf s).length = s.size := by unfold numsOf; rw [List.length_map, Array.length_toList]; rfl
theorem numsOf_getD (s : ByteArray) (j : Nat) : (numsOf s).getD j 0 = ((s.data.toList.getD j 0).toNat : Int) := by
  simp only [numsOf, List.getD_eq_getElem?_getD, List.getElem?_map]
  cases s.data.toList[j]? <;> rfl
/-- Two short names, for long tables. -/
abbrev Yy : Bool := true
abbrev Nn : Bool := false
/-- Three long names, short. -/
theorem q1 {α : Type _} (l : List α) (i : Nat) (a : α) : l.toArray.setIfInBounds i a = (l.set i a).toArray := List.setIfInBounds_toArray ..
theorem q2 {α : Type _} {x : α} {xs : List α} {a : α} : (x :: xs).set 0 a = a :: xs := List.set_cons_zero
theorem q3 {α : Type _} {x : α} {xs : List α} {n : Nat} {a : α} : (x :: xs).set (n + 1) a = x :: xs.set n a := List.set_cons_succ
/-- A slice's block, whatever its length and capacity. -/
theorem ob_any {A : Option Addr} {n c m d : Nat} : (Value.slice A n c).ownBlock = (Value.slice A m d).ownBlock := by cases A <;> rfl
end Go.Proofs.YtchlnmkjfjdamaaHw

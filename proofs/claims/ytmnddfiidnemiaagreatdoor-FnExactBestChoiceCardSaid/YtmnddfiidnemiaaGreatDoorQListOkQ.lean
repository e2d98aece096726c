/- The parts of a printed list, and what holds of each: the reference's and the program's are one. No condition. -/
import Derived.Test.YtmnddfiidnemiaaGreatDoorF1
import Derived.Test.YtmnddfiidnemiaaGreatDoorF2
import Derived.Test.YtmnddfiidnemiaaGreatDoorQListQ
import Derived.Test.YtmnddfiidnemiaaGreatDoorQPrinted
namespace Go.Proofs.YtmnddfiidnemiaaGreatDoor.Q
set_option linter.unusedVariables false
set_option linter.unusedSimpArgs false
open Go.RowKit Go.Proofs.YtmnddfiidnemiaaGreatDoor.F Go.Proofs.YtmnddfiidnemiaaGreatDoorHw Go.Proofs.YtmnddfiidnemiaaGreatDoorPl Go.Proofs.YtmnddfiidnemiaaGreatDoorW.PrintWords
theorem listOf_bothQ (Q : ByteArray → Prop) (s : ByteArray) (hs : s.size ≤ 1000000000) (hQ : s.size ≤ 300 → ∀ i j, j ≤ s.size → Q (trimmed (s.extract i j))) : ∃ (r : List ByteArray) (o : Bool), r.length ≤ 302 ∧ (∀ x ∈ r, Q x) ∧ Ev (fun k => spec_ListOf.f k s) (r, o) ∧ Ev (fun k => impl_ListOf.f k s) (r, o) := by
  have p1 := printed_spec s (by omega)
  have p2 := printed_impl s (by omega) 300
  have s0 : Ev (fun k => spec_ListOf.j0 k s true) ([], false) := by
    refine Ev.step (fun k => rfl) ?_
    simp only [spec_ListOf.j0]
    exact Ev.pos (by trivial) (Ev.now _)
  unfold spec_ListOf.f impl_ListOf.f
  cases hp : (numsOf s).all printed with
  | false =>
    rw [hp] at p1 p2
    rw [Bool.and_false] at p2
    exact ⟨[], false, Nat.zero_le _, fun x h => (by cases h), Ev.bind p1 (Ev.neg Bool.false_ne_true s0), Ev.bnd p2 (Ev.neg Bool.false_ne_true (Ev.now _))⟩
  | true =>
    rw [hp] at p1 p2
    rw [Bool.and_true] at p2
    by_cases h3 : (s.size : Int) ≤ 300
    · obtain ⟨r, o, r0, rx, r1, r2⟩ := list_bothQ Q s hs (hQ (by omega))
      rw [decide_eq_true h3] at p2
      have d : decide ((s.size : Int) > 300) = false := decide_eq_false (by omega)
      cases o with
      | true =>
        refine ⟨r, true, by omega, rx, Ev.bind p1 (Ev.pos rfl ?_), Ev.bnd p2 (Ev.pos rfl (Ev.bind r2 (Ev.pos rfl (Ev.now _))))⟩
        rw [d]
        refine Ev.step (fun k => rfl) ?_
        simp only [spec_ListOf.j0]
        exact Ev.neg (by decide) (Ev.bind r1 (Ev.pos rfl (Ev.now _)))
      | false =>
        refine ⟨[], false, Nat.zero_le _, fun x h => (by cases h), Ev.bind p1 (Ev.pos rfl ?_), Ev.bnd p2 (Ev.pos rfl (Ev.bind r2 (Ev.neg Bool.false_ne_true (Ev.now _))))⟩
        rw [d]
        refine Ev.step (fun k => rfl) ?_
        simp only [spec_ListOf.j0]
        exact Ev.neg (by decide) (Ev.bind r1 (Ev.neg Bool.false_ne_true (Ev.now _)))
    · rw [decide_eq_false h3] at p2
      have d : decide ((s.size : Int) > 300) = true := decide_eq_true (by omega)
      refine ⟨[], false, Nat.zero_le _, fun x h => (by cases h), Ev.bind p1 (Ev.pos rfl ?_), Ev.bnd p2 (Ev.neg Bool.false_ne_true (Ev.now _))⟩
      rw [d]
      exact s0
end Go.Proofs.YtmnddfiidnemiaaGreatDoor.Q

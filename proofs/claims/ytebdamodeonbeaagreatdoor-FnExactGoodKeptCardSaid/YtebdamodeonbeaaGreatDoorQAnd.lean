/- Tests one after another: their answer is the answers' conjunction. No condition. -/
import Derived.Test.YtebdamodeonbeaaGreatDoorPl
namespace Go.Proofs.YtebdamodeonbeaaGreatDoor.Q
set_option linter.unusedVariables false
set_option linter.unusedSimpArgs false
open Go.RowKit Go.Proofs.YtebdamodeonbeaaGreatDoorHw Go.Proofs.YtebdamodeonbeaaGreatDoorPl Go.Proofs.YtebdamodeonbeaaGreatDoorW.PrintWords
theorem Ev.andB {g h : Nat → Option Bool} {a b : Bool} (hg : Ev g a) (hh : Ev h b) : Ev (fun k => (g k).bind fun t => if t = true then h k else some false) (a && b) := by
  refine Ev.bind hg ?_
  cases a with
  | true => exact Ev.pos rfl hh
  | false => exact Ev.neg Bool.false_ne_true (Ev.now _)
theorem Ev.andO {o : Option Bool} {h : Nat → Option Bool} {a b : Bool} (hg : o = some a) (hh : Ev h b) : Ev (fun k => o.bind fun t => if t = true then h k else some false) (a && b) := by
  refine Ev.bnd hg ?_
  cases a with
  | true => exact Ev.pos rfl hh
  | false => exact Ev.neg Bool.false_ne_true (Ev.now _)
theorem Ev.ifB {c : Prop} [Decidable c] {h : Nat → Option Bool} {b : Bool} (hh : Ev h b) : Ev (fun k => if c then h k else some false) (decide c && b) := by
  by_cases hc : c
  · rw [decide_eq_true hc]; exact Ev.pos hc hh
  · rw [decide_eq_false hc]; exact Ev.neg hc (Ev.now _)
end Go.Proofs.YtebdamodeonbeaaGreatDoor.Q

/- The pure statement of FnExactGoodResponse. No condition. -/
import Derived.Test.YtebdamodeonbeaaGreatDoorF5
import Derived.Test.YtebdamodeonbeaaGreatDoorQResp
namespace Go.Proofs.YtebdamodeonbeaaGreatDoor.Pure
set_option linter.unusedVariables false
set_option linter.unusedSimpArgs false
open Go.RowKit Go.Proofs.YtebdamodeonbeaaGreatDoor.F Go.Proofs.YtebdamodeonbeaaGreatDoor.Q Go.Proofs.YtebdamodeonbeaaGreatDoorHw Go.Proofs.YtebdamodeonbeaaGreatDoorPl Go.Proofs.YtebdamodeonbeaaGreatDoorW.PrintWords
theorem FnExactGoodResponse : laws_FnExactGoodResponse.Pure := by
  intro n t l b hn ht hl hg hb
  apply Ev.rounds
  unfold laws_FnExactGoodResponse.f
  obtain ⟨u, u1, u2⟩ := sz_response n t l b ht hl hg hb
  refine Ev.bind u1 ?_
  by_cases h1 : u < 0
  · exact Ev.pos h1 (Ev.now _)
  obtain ⟨t1, hS, b1⟩ := u2 h1
  have hml : (l.map fdOf).length = l.length := List.length_map ..
  have hL := hS.1
  have T := to_response n t l b (by omega)
  have E := eq_response n t (l.map fdOf) b (by omega)
  obtain ⟨r, g1, g2, _⟩ := resp_both n t (l.map fdOf) b t1 hS b1
  refine Ev.neg h1 (Ev.bind T (Ev.bind g1 (Ev.bind T (Ev.bind g2 (Ev.neg ?_ (Ev.bind T (Ev.bind E (Ev.pos rfl (Ev.now _)))))))))
  cases r <;> exact Bool.false_ne_true
end Go.Proofs.YtebdamodeonbeaaGreatDoor.Pure

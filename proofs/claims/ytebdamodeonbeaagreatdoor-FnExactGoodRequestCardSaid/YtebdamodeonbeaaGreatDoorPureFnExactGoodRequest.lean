/- The pure statement of FnExactGoodRequest. No condition. -/
import Derived.Test.YtebdamodeonbeaaGreatDoorF4
import Derived.Test.YtebdamodeonbeaaGreatDoorQReq
namespace Go.Proofs.YtebdamodeonbeaaGreatDoor.Pure
set_option linter.unusedVariables false
set_option linter.unusedSimpArgs false
open Go.RowKit Go.Proofs.YtebdamodeonbeaaGreatDoor.F Go.Proofs.YtebdamodeonbeaaGreatDoor.Q Go.Proofs.YtebdamodeonbeaaGreatDoorHw Go.Proofs.YtebdamodeonbeaaGreatDoorPl Go.Proofs.YtebdamodeonbeaaGreatDoorW.PrintWords
theorem FnExactGoodRequest : laws_FnExactGoodRequest.Pure := by
  intro m t l b hm ht hl hg hb
  apply Ev.rounds
  unfold laws_FnExactGoodRequest.f
  obtain ⟨u, u1, u2⟩ := sz_request m t l b hm ht hl hg hb
  refine Ev.bind u1 ?_
  by_cases h1 : u < 0
  · exact Ev.pos h1 (Ev.now _)
  obtain ⟨m1, t1, hS, b1⟩ := u2 h1
  have hml : (l.map fdOf).length = l.length := List.length_map ..
  have hL := hS.1
  have T := to_request m t l b (by omega)
  have E := eq_request m t (l.map fdOf) b (by omega)
  obtain ⟨r, _, _, _, _, _, _, _, g1, g2⟩ := req_both m t (l.map fdOf) b m1 t1 hS b1
  refine Ev.neg h1 (Ev.bind T (Ev.bind g1 (Ev.bind T (Ev.bind g2 (Ev.neg ?_ (Ev.bind T (Ev.bind E (Ev.pos rfl (Ev.now _)))))))))
  cases r <;> exact Bool.false_ne_true
end Go.Proofs.YtebdamodeonbeaaGreatDoor.Pure

/- The pure statement of FnExactResponseBytes. No condition. -/
import Derived.Test.YtebdamodeonbeaaGreatDoorF5
import Derived.Test.YtebdamodeonbeaaGreatDoorQResp
namespace Go.Proofs.YtebdamodeonbeaaGreatDoor.Pure
set_option linter.unusedVariables false
set_option linter.unusedSimpArgs false
open Go.RowKit Go.Proofs.YtebdamodeonbeaaGreatDoor.F Go.Proofs.YtebdamodeonbeaaGreatDoor.Q Go.Proofs.YtebdamodeonbeaaGreatDoorHw Go.Proofs.YtebdamodeonbeaaGreatDoorPl Go.Proofs.YtebdamodeonbeaaGreatDoorW.PrintWords
theorem bytes_both (n : Int) (t : ByteArray) (l : List FdT) (b : ByteArray) (ht : t.size ≤ 1048576) (hl : Small l) (hb : b.size ≤ 1048576) :
    ∃ (g : ByteArray) (o : Bool), Ev (fun k => spec_ResponseBytes.f k n t l b) (g, o) ∧ Ev (fun k => impl_ResponseBytes.f k n t l b) (g, o) := by
  obtain ⟨r, g1, g2, h⟩ := resp_both n t l b ht hl hb
  unfold spec_ResponseBytes.f impl_ResponseBytes.f
  cases r with
  | false => exact ⟨_, _, Ev.bind g1 (Ev.neg Bool.false_ne_true (Ev.now _)), Ev.bind g2 (Ev.neg Bool.false_ne_true (Ev.now _))⟩
  | true =>
    obtain ⟨line, T, t0, L1, L2, t1, t2⟩ := h rfl
    exact ⟨T ++ b, true, Ev.bind g1 (Ev.pos rfl (Ev.bind L1 (Ev.bind t1 (Ev.pos (by omega) (Ev.now _))))), Ev.bind g2 (Ev.pos rfl (Ev.bnd L2 (Ev.bind t2 (Ev.pos (by omega) (Ev.now _)))))⟩
theorem FnExactResponseBytes : laws_FnExactResponseBytes.Pure := by
  intro n t l b hn ht hl hg hb
  apply Ev.rounds
  unfold laws_FnExactResponseBytes.f
  obtain ⟨u, u1, u2⟩ := sz_response n t l b ht hl hg hb
  refine Ev.bind u1 ?_
  by_cases h1 : u < 0
  · exact Ev.pos h1 (Ev.now _)
  obtain ⟨t1, hS, b1⟩ := u2 h1
  have hml : (l.map fdOf).length = l.length := List.length_map ..
  have hL := hS.1
  have T := to_response n t l b (by omega)
  have E := eq_response n t (l.map fdOf) b (by omega)
  obtain ⟨g, o, g1, g2⟩ := bytes_both n t (l.map fdOf) b t1 hS b1
  refine Ev.neg h1 (Ev.bind T (Ev.bind g1 (Ev.bind T (Ev.bind g2 (Ev.pos rfl ?_)))))
  rw [show (o != o) = false by simp]
  refine Ev.step (fun k => rfl) ?_
  simp only [laws_FnExactResponseBytes.j0]
  exact Ev.neg (by decide) (Ev.bind T (Ev.bind E (Ev.pos rfl (Ev.now _))))
end Go.Proofs.YtebdamodeonbeaaGreatDoor.Pure

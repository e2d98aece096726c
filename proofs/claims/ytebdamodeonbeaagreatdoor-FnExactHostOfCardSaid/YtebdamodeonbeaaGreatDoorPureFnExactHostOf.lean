/- The pure statement of FnExactHostOf. No condition. -/
import Derived.Test.YtebdamodeonbeaaGreatDoorF5
import Derived.Test.YtebdamodeonbeaaGreatDoorQReq
namespace Go.Proofs.YtebdamodeonbeaaGreatDoor.Pure
set_option linter.unusedVariables false
set_option linter.unusedSimpArgs false
open Go.RowKit Go.Proofs.YtebdamodeonbeaaGreatDoor.F Go.Proofs.YtebdamodeonbeaaGreatDoor.Q Go.Proofs.YtebdamodeonbeaaGreatDoorHw Go.Proofs.YtebdamodeonbeaaGreatDoorPl Go.Proofs.YtebdamodeonbeaaGreatDoorW.PrintWords
theorem host_both (m t : ByteArray) (l : List FdT) (b : ByteArray) (hm : m.size ≤ 1048576) (ht : t.size ≤ 1048576) (hl : Small l) (hb : b.size ≤ 1048576) :
    ∃ (g : ByteArray) (o : Bool), Ev (fun k => spec_HostOf.f k m t l b) (g, o) ∧ Ev (fun k => impl_HostOf.f k m t l b) (g, o) := by
  obtain ⟨r, line, T, t0, L1, L2, t1, t2, g1, g2⟩ := req_both m t l b hm ht hl hb
  obtain ⟨v1, v2⟩ := vals_both l hl (⟨#[104, 111, 115, 116]⟩ : ByteArray) (by decide)
  generalize vals l (⟨#[104, 111, 115, 116]⟩ : ByteArray) = ws at v1 v2
  unfold spec_HostOf.f impl_HostOf.f
  cases r with
  | false => exact ⟨_, _, Ev.bind v1 (Ev.bind g1 (Ev.neg Bool.false_ne_true (Ev.now _))), Ev.bind g2 (Ev.neg Bool.false_ne_true (Ev.now _))⟩
  | true =>
    by_cases h1 : (ws.length : Int) = 1
    · exact ⟨_, _, Ev.bind v1 (Ev.bind g1 (Ev.pos rfl (Ev.pos h1 (Ev.pos (by omega) (Ev.now _))))), Ev.bind g2 (Ev.pos rfl (Ev.bind v2 (Ev.pos h1 (Ev.pos (by omega) (Ev.now _)))))⟩
    · exact ⟨_, _, Ev.bind v1 (Ev.bind g1 (Ev.pos rfl (Ev.neg h1 (Ev.now _)))), Ev.bind g2 (Ev.pos rfl (Ev.bind v2 (Ev.neg h1 (Ev.now _))))⟩
theorem FnExactHostOf : laws_FnExactHostOf.Pure := by
  intro m t l b hm ht hl hg hb
  apply Ev.rounds
  unfold laws_FnExactHostOf.f
  obtain ⟨u, u1, u2⟩ := sz_request m t l b hm ht hl hg hb
  refine Ev.bind u1 ?_
  by_cases h1 : u < 0
  · exact Ev.pos h1 (Ev.now _)
  obtain ⟨m1, t1, hS, b1⟩ := u2 h1
  have hml : (l.map fdOf).length = l.length := List.length_map ..
  have hL := hS.1
  have T := to_request m t l b (by omega)
  have E := eq_request m t (l.map fdOf) b (by omega)
  obtain ⟨g, o, g1, g2⟩ := host_both m t (l.map fdOf) b m1 t1 hS b1
  refine Ev.neg h1 (Ev.bind T (Ev.bind g1 (Ev.bind T (Ev.bind g2 (Ev.pos rfl ?_)))))
  rw [show (o != o) = false by simp]
  refine Ev.step (fun k => rfl) ?_
  simp only [laws_FnExactHostOf.j0]
  exact Ev.neg (by decide) (Ev.bind T (Ev.bind E (Ev.pos rfl (Ev.now _))))
end Go.Proofs.YtebdamodeonbeaaGreatDoor.Pure

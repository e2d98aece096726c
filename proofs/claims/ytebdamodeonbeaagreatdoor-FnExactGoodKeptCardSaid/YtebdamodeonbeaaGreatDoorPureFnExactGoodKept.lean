/- The pure statement of FnExactGoodKept. No condition. -/
import Derived.Test.YtebdamodeonbeaaGreatDoorF5
import Derived.Test.YtebdamodeonbeaaGreatDoorQResp
namespace Go.Proofs.YtebdamodeonbeaaGreatDoor.Pure
set_option linter.unusedVariables false
set_option linter.unusedSimpArgs false
open Go.RowKit Go.Proofs.YtebdamodeonbeaaGreatDoor.F Go.Proofs.YtebdamodeonbeaaGreatDoor.Q Go.Proofs.YtebdamodeonbeaaGreatDoorHw Go.Proofs.YtebdamodeonbeaaGreatDoorPl Go.Proofs.YtebdamodeonbeaaGreatDoorW.PrintWords
theorem kept_both (n : Int) (t : ByteArray) (l : List FdT) (b : ByteArray) (x y : Int) (ht : t.size ≤ 1048576) (hl : Small l) (hb : b.size ≤ 1048576) :
    ∃ r : Bool, Ev (fun k => spec_GoodKept.f k n t l b x y) r ∧ Ev (fun k => impl_GoodKept.f k n t l b x y) r := by
  obtain ⟨r, g1, g2, _⟩ := resp_both n t l b ht hl hb
  refine ⟨r && (decide (x ≥ 0) && (decide (x ≤ y) && decide (y ≤ 253402300799))), ?_, Ev.eq (r := r && ((decide (0 ≤ x) && decide (x ≤ y)) && decide (y ≤ 253402300799))) ?_ ?_⟩
  · unfold spec_GoodKept.f
    exact Ev.andB g1 (Ev.ifB (Ev.ifB (Ev.now _)))
  · unfold impl_GoodKept.f
    exact Ev.andB g2 (Ev.andO (within_tok x 0 y) (Ev.now _))
  · rw [Bool.and_assoc]
theorem FnExactGoodKept : laws_FnExactGoodKept.Pure := by
  intro n t l b x y hn ht hl hg hb hx hy
  apply Ev.rounds
  unfold laws_FnExactGoodKept.f
  obtain ⟨u, u1, u2⟩ := sz_response n t l b ht hl hg hb
  have U : Ev (fun k => laws_szKept.f k n t l b x y 1048576) (if u < 0 then -1 else u) := by
    unfold laws_szKept.f
    refine Ev.bind u1 ?_
    by_cases h1 : u < 0
    · exact Ev.eq (Ev.pos h1 (Ev.now _)) (if_pos h1).symm
    · exact Ev.eq (Ev.neg h1 (Ev.now _)) (if_neg h1).symm
  refine Ev.bind U ?_
  by_cases h1 : u < 0
  · rw [if_pos h1]
    exact Ev.pos (by decide) (Ev.now _)
  obtain ⟨t1, hS, b1⟩ := u2 h1
  have hml : (l.map fdOf).length = l.length := List.length_map ..
  have hL := hS.1
  have T : Ev (fun k => laws_toKept.f k n t l b x y) (n, t, l.map fdOf, b, x, y) := by
    unfold laws_toKept.f
    exact Ev.bind (to_response n t l b (by omega)) (Ev.now _)
  have E : Ev (fun k => laws_eqKept.f k n t (l.map fdOf) b x y n t (l.map fdOf) b x y) true := by
    unfold laws_eqKept.f
    exact Ev.bind (eq_response n t (l.map fdOf) b (by omega)) (Ev.pos rfl (Ev.pos rfl (Ev.pos rfl (Ev.now _))))
  obtain ⟨r, g1, g2⟩ := kept_both n t (l.map fdOf) b x y t1 hS b1
  rw [if_neg h1]
  refine Ev.neg h1 (Ev.bind T (Ev.bind g1 (Ev.bind T (Ev.bind g2 (Ev.neg ?_ (Ev.bind T (Ev.bind E (Ev.pos rfl (Ev.now _)))))))))
  cases r <;> exact Bool.false_ne_true
end Go.Proofs.YtebdamodeonbeaaGreatDoor.Pure

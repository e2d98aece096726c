/- The values of the fields with a name: the reference's and the program's are one. No condition. -/
import Derived.Test.YtebdamodeonbeaaGreatDoorF1
import Derived.Test.YtebdamodeonbeaaGreatDoorF4
import Derived.Test.YtebdamodeonbeaaGreatDoorQField
import Derived.Test.YtebdamodeonbeaaGreatDoorQIs
namespace Go.Proofs.YtebdamodeonbeaaGreatDoor.Q
set_option linter.unusedVariables false
set_option linter.unusedSimpArgs false
open Go.RowKit Go.Proofs.YtebdamodeonbeaaGreatDoor.F Go.Proofs.YtebdamodeonbeaaGreatDoorHw Go.Proofs.YtebdamodeonbeaaGreatDoorPl Go.Proofs.YtebdamodeonbeaaGreatDoorW.PrintWords
/-- The values of the fields with a name. -/
def vals (l : List FdT) (name : ByteArray) : List ByteArray := (l.filter fun x => isB x.f0 name).map (·.f1)
theorem vals_length (l : List FdT) (name : ByteArray) : (vals l name).length ≤ l.length := by
  unfold vals
  rw [List.length_map]
  exact List.length_filter_le _ _
theorem vals_mem {l : List FdT} {name v : ByteArray} (h : v ∈ vals l name) : ∃ x ∈ l, v = x.f1 := by
  unfold vals at h
  obtain ⟨x, hx, rfl⟩ := List.mem_map.1 h
  exact ⟨x, (List.mem_filter.1 hx).1, rfl⟩
theorem vals_drop (l : List FdT) (name : ByteArray) (i : Nat) (h : i < l.length) : vals (l.drop i) name = (if isB l[i].f0 name = true then [l[i].f1] else []) ++ vals (l.drop (i + 1)) name := by
  unfold vals
  rw [List.drop_eq_getElem_cons h, List.filter_cons]
  by_cases hb : isB l[i].f0 name = true
  · rw [if_pos hb, if_pos hb]; rfl
  · rw [if_neg hb, if_neg hb]; rfl
theorem vals_both (l : List FdT) (hl : Small l) (name : ByteArray) (hn : name.size ≤ 9000000) : Ev (fun k => spec_l3Values.f k l name) (vals l name) ∧ Ev (fun k => impl_valuesOf.f k l name) (vals l name) := by
  have hL := hl.1
  have M : ∀ (d i : Nat) (g : List ByteArray), i + d = l.length → g.length ≤ i →
      Ev (fun k => spec_l3Values.l0 k name g l (l.length : Int) (i : Int)) (g ++ vals (l.drop i) name) ∧ Ev (fun k => impl_valuesOf.l0 k name g l (l.length : Int) (i : Int)) (g ++ vals (l.drop i) name) := by
    intro d
    induction d with
    | zero =>
      intro i g hi hg
      rw [List.drop_eq_nil_of_le (by omega), show vals [] name = [] from rfl, List.append_nil]
      refine ⟨Ev.step (fun k => rfl) ?_, Ev.step (fun k => rfl) ?_⟩
      · simp only [spec_l3Values.l0]; exact Ev.neg (by omega) (Ev.now _)
      · simp only [impl_valuesOf.l0]; exact Ev.neg (by omega) (Ev.now _)
    | succ d ih =>
      intro i g hi hg
      have hlt : i < l.length := by omega
      obtain ⟨s1, s2⟩ := hl.at hlt
      have hs := is_spec l[i].f0 l[i].f1 name (by omega) hn
      have h1 := low_impl l[i].f0 (by omega)
      have h2 := low_impl name hn
      rw [vals_drop l name i hlt]
      by_cases hb : isB l[i].f0 name = true
      · rw [if_pos hb, ← List.append_assoc]
        obtain ⟨z1, z2⟩ := ih (i + 1) (g ++ [l[i].f1]) (by omega) (by rw [List.length_append]; simp; omega)
        refine ⟨Ev.step (fun k => rfl) ?_, Ev.step (fun k => rfl) ?_⟩
        · simp only [spec_l3Values.l0]
          rw [rd_field l i hlt, wrap_succ hlt (by omega)]
          exact Ev.pos (by omega) (Ev.pos (by omega) (Ev.pos (by omega) (Ev.bnd hs (Ev.pos hb (Ev.pos (by omega) z1)))))
        · simp only [impl_valuesOf.l0]
          rw [rd_field l i hlt, wrap_succ hlt (by omega)]
          exact Ev.pos (by omega) (Ev.pos (by omega) (Ev.pos (by omega) (Ev.bnd h1 (Ev.bnd h2 (Ev.pos (eq_of_beq hb) (Ev.pos (by omega) z2))))))
      · rw [if_neg hb, List.nil_append]
        obtain ⟨z1, z2⟩ := ih (i + 1) g (by omega) (by omega)
        refine ⟨Ev.step (fun k => rfl) ?_, Ev.step (fun k => rfl) ?_⟩
        · simp only [spec_l3Values.l0]
          rw [rd_field l i hlt, wrap_succ hlt (by omega)]
          exact Ev.pos (by omega) (Ev.pos (by omega) (Ev.pos (by omega) (Ev.bnd hs (Ev.neg hb z1))))
        · simp only [impl_valuesOf.l0]
          rw [rd_field l i hlt, wrap_succ hlt (by omega)]
          exact Ev.pos (by omega) (Ev.pos (by omega) (Ev.pos (by omega) (Ev.bnd h1 (Ev.bnd h2 (Ev.neg (fun e => hb (beq_iff_eq.2 e)) z2)))))
  obtain ⟨a, b⟩ := M l.length 0 [] (by omega) (Nat.le_refl _)
  rw [List.drop_zero, List.nil_append] at a b
  exact ⟨a, b⟩
end Go.Proofs.YtebdamodeonbeaaGreatDoor.Q

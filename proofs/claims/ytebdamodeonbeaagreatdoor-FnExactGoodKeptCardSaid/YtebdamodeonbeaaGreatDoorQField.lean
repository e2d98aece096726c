/- Rows of fields: judged, sized, copied, held. No condition. -/
import Derived.Test.YtebdamodeonbeaaGreatDoorF1
import Derived.Test.YtebdamodeonbeaaGreatDoorF4
import Derived.Test.YtebdamodeonbeaaGreatDoorF3
import Derived.Test.YtebdamodeonbeaaGreatDoorF5
import Derived.Test.YtebdamodeonbeaaGreatDoorQGoodF
import Derived.Test.YtebdamodeonbeaaGreatDoorQList
namespace Go.Proofs.YtebdamodeonbeaaGreatDoor.Q
set_option linter.unusedVariables false
set_option linter.unusedSimpArgs false
open Go.RowKit Go.Proofs.YtebdamodeonbeaaGreatDoor.F Go.Proofs.YtebdamodeonbeaaGreatDoorHw Go.Proofs.YtebdamodeonbeaaGreatDoorPl Go.Proofs.YtebdamodeonbeaaGreatDoorW.PrintWords
abbrev FdT : Type := S70
abbrev LFdT : Type := S69
theorem rd_field (l : List FdT) (i : Nat) (h : i < l.length) : rd_T70 l (i : Int) = l[i] := by
  unfold rd_T70
  rw [Int.toNat_natCast, List.getD_eq_getElem?_getD, List.getElem?_eq_getElem h]
  rfl
theorem rd_lfield (l : List LFdT) (i : Nat) (h : i < l.length) : rd_T69 l (i : Int) = l[i] := by
  unfold rd_T69
  rw [Int.toNat_natCast, List.getD_eq_getElem?_getD, List.getElem?_eq_getElem h]
  rfl
def fieldsB (l : List FdT) : Bool := (l.all fun x => fieldB x.f0 x.f1) && decide (l.length ≤ 40)
def Small (l : List FdT) : Prop := l.length ≤ 1048576 ∧ ∀ x ∈ l, x.f0.size ≤ 1048576 ∧ x.f1.size ≤ 1048576
theorem Small.at {l : List FdT} (h : Small l) {i : Nat} (hi : i < l.length) : l[i].f0.size ≤ 1048576 ∧ l[i].f1.size ≤ 1048576 := h.2 _ (List.getElem_mem hi)
theorem fields_spec (l : List FdT) (hl : Small l) : Ev (fun k => spec_l3Fields.f k l) (fieldsB l) := by
  have hL := hl.1
  unfold spec_l3Fields.f
  have h := list_all0 l (fun k i => spec_l3Fields.l0 k l l (l.length : Int) i) (fun x => fieldB x.f0 x.f1) false (decide (l.length ≤ 40)) ?_ ?_ ?_
  · refine Ev.eq h ?_
    unfold fieldsB
    cases l.all fun x => fieldB x.f0 x.f1 <;> rfl
  · intro i hi hq r hr
    have hg := good_spec l[i].f0 l[i].f1 (by have := (hl.at hi).1; omega) (by have := (hl.at hi).2; omega)
    rw [hq] at hg
    refine Ev.step (fun k => rfl) ?_
    simp only [spec_l3Fields.l0]
    rw [rd_field l i hi, wrap_succ hi (by omega)]
    exact Ev.pos (by omega) (Ev.pos (by omega) (Ev.pos (by omega) (Ev.bind hg (Ev.pos rfl hr))))
  · intro i hi hq
    have hg := good_spec l[i].f0 l[i].f1 (by have := (hl.at hi).1; omega) (by have := (hl.at hi).2; omega)
    rw [hq] at hg
    refine Ev.step (fun k => rfl) ?_
    simp only [spec_l3Fields.l0]
    rw [rd_field l i hi]
    exact Ev.pos (by omega) (Ev.pos (by omega) (Ev.pos (by omega) (Ev.bind hg (Ev.neg Bool.false_ne_true (Ev.now _)))))
  · refine Ev.step (fun k => rfl) ?_
    simp only [spec_l3Fields.l0]
    refine Ev.neg (by omega) (Ev.eq (Ev.now _) ?_)
    rw [Bool.eq_iff_iff, decide_eq_true_iff, decide_eq_true_iff]
    omega
theorem fields_impl (l : List FdT) (hl : Small l) : impl_areFields.f l = some (fieldsB l) := by
  have hL := hl.1
  unfold impl_areFields.f impl_Field_75.f fieldsB
  by_cases h : (l.length : Int) ≤ 40
  · rw [if_pos h, if_pos (by omega), allO_all (q := fun x => fieldB x.f0 x.f1) (fun x hx => good_impl x.f0 x.f1 (by have := (hl.2 x hx).1; omega) (by have := (hl.2 x hx).2; omega)), decide_eq_true (show l.length ≤ 40 by omega), Bool.and_true]
    rfl
  · rw [if_neg h, decide_eq_false (show ¬ l.length ≤ 40 by omega), Bool.and_false]
/-- A row copied. -/
def fdOf (x : LFdT) : FdT := ⟨x.f0, x.f1⟩
theorem to_fields (l : List LFdT) (hl : l.length ≤ 1000000000) : Ev (fun k => laws_toFieldS.f k l) (l.map fdOf) := by
  have M : ∀ (d i : Nat) (x : List FdT), i + d = l.length → x.length = l.length → (∀ j, j < i → x[j]? = (l.map fdOf)[j]?) → Ev (fun k => laws_toFieldS.l0 k l x (i : Int)) (l.map fdOf) := by
    intro d
    induction d with
    | zero =>
      intro i x hi hx hj
      obtain rfl : i = l.length := by omega
      have : x = l.map fdOf := List.ext_getElem? (fun j => by
        by_cases h : j < l.length
        · exact hj j h
        · rw [List.getElem?_eq_none (by omega), List.getElem?_eq_none (by rw [List.length_map]; omega)])
      subst this
      refine Ev.step (fun k => rfl) ?_
      simp only [laws_toFieldS.l0]
      exact Ev.neg (by omega) (Ev.now _)
    | succ d ih =>
      intro i x hi hx hj
      have hlt : i < l.length := by omega
      refine Ev.step (fun k => rfl) ?_
      simp only [laws_toFieldS.l0, Int.toNat_natCast]
      rw [rd_lfield l i hlt, wrap_succ hlt (by omega)]
      refine Ev.pos (by omega) (Ev.pos (by omega) (Ev.bnd (a := (l[i].f0, l[i].f1)) (by unfold laws_toField.f; rfl) (Ev.pos (by omega) (ih (i + 1) _ (by omega) (by rw [List.length_set]; exact hx) (fun j hlt2 => ?_)))))
      by_cases e : j = i
      · subst e
        rw [List.getElem?_set_self (by omega), List.getElem?_map, List.getElem?_eq_getElem hlt]
        rfl
      · rw [List.getElem?_set_ne (by omega)]
        exact hj j (by omega)
  unfold laws_toFieldS.f
  exact Ev.pos (by omega) (Ev.pos (by omega) (M l.length 0 _ (by omega) (by rw [List.length_replicate]; omega) (fun j h => by omega)))
theorem eq_fields (l : List FdT) (hl : l.length ≤ 1000000000) : Ev (fun k => laws_eqFieldS.f k l l) true := by
  unfold laws_eqFieldS.f
  refine Ev.pos rfl (go_to (fun k i => laws_eqFieldS.l0 k l l i) l.length true ?_ l.length 0 (by omega) (fun j _ hj h => ?_))
  · refine Ev.step (fun k => rfl) ?_
    simp only [laws_eqFieldS.l0]
    exact Ev.neg (by omega) (Ev.now _)
  · refine Ev.step (fun k => rfl) ?_
    simp only [laws_eqFieldS.l0]
    rw [wrap_succ hj (by omega)]
    exact Ev.pos (by omega) (Ev.pos (by omega) (Ev.pos (by omega) (Ev.bnd (a := true) (by unfold laws_eqField.f; rw [if_pos rfl, if_pos rfl]) (Ev.pos rfl h))))
theorem sz_fields (l : List LFdT) (hl : l.length ≤ 9223372036854775807) (hs : ∀ x ∈ l, x.f0.size ≤ 9223372036854775807 ∧ x.f1.size ≤ 9223372036854775807) (n : Int) (n0 : 0 ≤ n) (n1 : n ≤ 1048576) :
    ∃ t : Int, Ev (fun k => laws_szFieldS.f k l n) t ∧ t ≤ n ∧ (¬ t < 0 → Small (l.map fdOf)) := by
  have M : ∀ (d i : Nat) (n : Int), i + d = l.length → l.length ≤ 1048576 → 0 ≤ n → n ≤ 1048576 → ∃ t : Int, Ev (fun k => laws_szFieldS.l0 k l n (i : Int)) t ∧ t ≤ n ∧ (¬ t < 0 → ∀ x ∈ l.drop i, x.f0.size ≤ 1048576 ∧ x.f1.size ≤ 1048576) := by
    intro d
    induction d with
    | zero =>
      intro i n hi hL h0 h1
      refine ⟨n, ?_, by omega, fun _ x hx => ?_⟩
      · refine Ev.step (fun k => rfl) ?_
        simp only [laws_szFieldS.l0]
        exact Ev.neg (by omega) (Ev.now _)
      · rw [List.drop_eq_nil_of_le (by omega)] at hx
        cases hx
    | succ d ih =>
      intro i n hi hL h0 h1
      have hlt : i < l.length := by omega
      obtain ⟨ha, hb⟩ := hs _ (List.getElem_mem hlt)
      obtain ⟨t, e, h2, h3⟩ := sz_field l[i].f0 l[i].f1 n ha hb h0 h1
      by_cases ht : t < 0
      · refine ⟨-1, ?_, by omega, fun h => absurd (by decide) h⟩
        refine Ev.step (fun k => rfl) ?_
        simp only [laws_szFieldS.l0]
        rw [rd_lfield l i hlt]
        exact Ev.pos (by omega) (Ev.pos (by omega) (Ev.bnd e (Ev.pos ht (Ev.now _))))
      · obtain ⟨u, u1, u2, u3⟩ := ih (i + 1) t (by omega) hL (by omega) (by omega)
        refine ⟨u, ?_, by omega, fun h x hx => ?_⟩
        · refine Ev.step (fun k => rfl) ?_
          simp only [laws_szFieldS.l0]
          rw [rd_lfield l i hlt, wrap_succ hlt (by omega)]
          exact Ev.pos (by omega) (Ev.pos (by omega) (Ev.bnd e (Ev.neg ht u1)))
        · rw [List.drop_eq_getElem_cons hlt] at hx
          rcases List.mem_cons.1 hx with rfl | hx
          · exact h3 ht
          · exact u3 h x hx
  unfold laws_szFieldS.f
  have e : wrap64 (n - (l.length : Int)) = n - (l.length : Int) := wrap_id (by omega) (by omega)
  rw [e]
  by_cases h : n - (l.length : Int) < 0
  · exact ⟨-1, Ev.pos h (Ev.now _), by omega, fun h => absurd (by decide) h⟩
  · obtain ⟨t, t1, t2, t3⟩ := M l.length 0 (n - (l.length : Int)) (by omega) (by omega) (by omega) (by omega)
    refine ⟨t, Ev.neg h t1, by omega, fun ht => ⟨by rw [List.length_map]; omega, fun x hx => ?_⟩⟩
    obtain ⟨y, hy, rfl⟩ := List.mem_map.1 hx
    exact t3 ht y (by rw [List.drop_zero]; exact hy)
end Go.Proofs.YtebdamodeonbeaaGreatDoor.Q

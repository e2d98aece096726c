/- The pure statement of FnExactJoinedOf: the values of a name are joined alike. No condition. -/
import Derived.Test.YtmnddfiidnemiaaDoorF4
import Derived.Test.YtmnddfiidnemiaaDoorQValues
import Derived.Test.YtmnddfiidnemiaaDoorQJoined
namespace Go.Proofs.YtmnddfiidnemiaaDoor.Pure
set_option linter.unusedVariables false
set_option linter.unusedSimpArgs false
open Go.RowKit Go.Proofs.YtmnddfiidnemiaaDoor.F Go.Proofs.YtmnddfiidnemiaaDoor.Q Go.Proofs.YtmnddfiidnemiaaDoorHw Go.Proofs.YtmnddfiidnemiaaDoorPl Go.Proofs.YtmnddfiidnemiaaDoorW.PrintWords
theorem joined_both (l : List FdT) (hl : Small l) (name : ByteArray) (hn : name.size ≤ 1048576) : ∃ (g : ByteArray) (o : Bool), Ev (fun k => spec_JoinedOf.f k l name) (g, o) ∧ Ev (fun k => impl_JoinedOf.f k l name) (g, o) := by
  obtain ⟨_, v3⟩ := values_both l hl name hn
  obtain ⟨v1, _⟩ := vals_both l hl name (by omega)
  have f1 := fields_spec l hl
  have t1 := token_spec name (by omega)
  unfold spec_JoinedOf.f impl_JoinedOf.f
  unfold valuesR at v3
  cases hf : fieldsB l with
  | false =>
    rw [hf] at f1 v3
    rw [if_neg (fun h => Bool.false_ne_true h.1)] at v3
    exact ⟨_, _, Ev.bind f1 (Ev.neg Bool.false_ne_true (Ev.now _)), Ev.bind v3 (Ev.neg Bool.false_ne_true (Ev.now _))⟩
  | true =>
    cases ht : tokenB name with
    | false =>
      rw [hf] at f1 v3
      rw [ht] at t1 v3
      rw [if_neg (fun h => Bool.false_ne_true h.2)] at v3
      exact ⟨_, _, Ev.bind f1 (Ev.pos rfl (Ev.bind t1 (Ev.neg Bool.false_ne_true (Ev.now _)))), Ev.bind v3 (Ev.neg Bool.false_ne_true (Ev.now _))⟩
    | true =>
      rw [if_pos ⟨hf, ht⟩] at v3
      rw [ht] at t1
      have hf2 := hf
      unfold fieldsB at hf2
      simp only [Bool.and_eq_true, decide_eq_true_eq] at hf2
      have hlen := vals_length l name
      obtain ⟨j1, j2⟩ := join_spec (vals l name) (by omega) (fun w hw => by
        obtain ⟨x, hx, rfl⟩ := vals_mem hw
        have := (field_of (List.all_eq_true.1 hf2.1 x hx)).2
        omega)
      have j3 := join_impl (vals l name) (by omega) j1
      rw [hf] at f1
      have S : Ev (fun k => spec_l3Joined.f k l name) (txt (joined (vals l name) ([44, 32] : List UInt8)), decide ((vals l name).length > 0)) := by
        unfold spec_l3Joined.f
        exact Ev.bind v1 j2
      refine ⟨_, _, Ev.bind f1 (Ev.pos rfl (Ev.bind t1 (Ev.pos rfl (Ev.bind S (Ev.now _))))), Ev.bind v3 (Ev.pos rfl ?_)⟩
      by_cases h0 : (vals l name).length = 0
      · have e : vals l name = [] := List.eq_nil_of_length_eq_zero h0
        rw [e]
        exact Ev.pos rfl (Ev.now _)
      · refine Ev.neg (by show ¬ ((vals l name).length : Int) = 0; omega) (Ev.bnd j3 (Ev.eq (Ev.now _) ?_))
        rw [decide_eq_true (show (vals l name).length > 0 by omega)]
theorem FnExactJoinedOf : laws_FnExactJoinedOf.Pure := by
  intro l s hl hg hs
  apply Ev.rounds
  unfold laws_FnExactJoinedOf.f
  by_cases h0 : (s.size : Int) > 1048576
  · exact Ev.pos h0 (Ev.now _)
  refine Ev.neg h0 ?_
  obtain ⟨t, et, _, ht⟩ := sz_fields l hl hg 1048576 (by omega) (by omega)
  refine Ev.bind et ?_
  by_cases h1 : t < 0
  · exact Ev.pos h1 (Ev.now _)
  have hS := ht h1
  have hml : (l.map fdOf).length = l.length := List.length_map ..
  have hL := hS.1
  have T := to_fields l (by omega)
  obtain ⟨g, o, g1, g2⟩ := joined_both (l.map fdOf) hS s (by omega)
  have EX := eq_fields (l.map fdOf) (by omega)
  refine Ev.neg h1 (Ev.bind T (Ev.bind g1 (Ev.bind T (Ev.bind g2 (Ev.pos rfl ?_)))))
  rw [show (o != o) = false by simp]
  refine Ev.step (fun k => rfl) ?_
  simp only [laws_FnExactJoinedOf.j0]
  exact Ev.neg (by decide) (Ev.bind T (Ev.bind EX (Ev.pos rfl (Ev.now _))))
end Go.Proofs.YtmnddfiidnemiaaDoor.Pure

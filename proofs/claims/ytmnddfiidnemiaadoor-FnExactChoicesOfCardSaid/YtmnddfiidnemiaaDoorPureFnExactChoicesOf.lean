/- The pure statement of FnExactChoicesOf: the choices of a list are told alike. No condition. -/
import Derived.Test.YtmnddfiidnemiaaDoorF3
import Derived.Test.YtmnddfiidnemiaaDoorQChoice
import Derived.Test.YtmnddfiidnemiaaDoorQListOkQ
import Derived.Test.YtmnddfiidnemiaaDoorQMarkT
namespace Go.Proofs.YtmnddfiidnemiaaDoor.Pure
set_option linter.unusedVariables false
set_option linter.unusedSimpArgs false
open Go.RowKit Go.Proofs.YtmnddfiidnemiaaDoor.F Go.Proofs.YtmnddfiidnemiaaDoor.Q Go.Proofs.YtmnddfiidnemiaaDoorHw Go.Proofs.YtmnddfiidnemiaaDoorPl Go.Proofs.YtmnddfiidnemiaaDoorW.PrintWords
theorem rd_choice (l : List ChT) (i : Nat) (h : i < l.length) : rd_T75 l (i : Int) = l[i] := by
  unfold rd_T75
  rw [Int.toNat_natCast, List.getD_eq_getElem?_getD, List.getElem?_eq_getElem h]
  rfl
/-- What holds of a part. -/
def Part (x : ByteArray) : Prop := x.size ≤ 300 ∧ Edged x.data.toList
theorem choices_loop (l : List ByteArray) (hl : l.length ≤ 20) (hs : ∀ x ∈ l, Part x) : ∀ (d i : Nat) (g : List ChT), i + d = l.length → g.length = i →
    ∃ (r : List ChT) (o : Bool), r.length ≤ l.length ∧ Ev (fun k => spec_ChoicesOf.l0 k g l (l.length : Int) (i : Int)) (r, o) ∧ Ev (fun k => impl_ChoicesOf.l0 k g l (l.length : Int) (i : Int)) (r, o) := by
  intro d
  induction d with
  | zero =>
    intro i g hi hg
    refine ⟨g, true, by omega, Ev.step (fun k => rfl) ?_, Ev.step (fun k => rfl) ?_⟩
    · simp only [spec_ChoicesOf.l0]; exact Ev.neg (by omega) (Ev.now _)
    · simp only [impl_ChoicesOf.l0]; exact Ev.neg (by omega) (Ev.now _)
  | succ d ih =>
    intro i g hi hg
    have hlt : i < l.length := by omega
    obtain ⟨hx, he⟩ := hs _ (List.getElem_mem hlt)
    have hL : l[i] = tx l[i].data.toList := (tx_of _).symm
    obtain ⟨a, b, ok, c1, c2, c3⟩ := choice_both l (by omega) i hlt l[i].data.toList hL (by rw [data_len]; exact hx) he g (by omega)
    rw [← hL] at c1
    cases ok with
    | false =>
      refine ⟨[], false, Nat.zero_le _, c3 rfl, Ev.step (fun k => rfl) ?_⟩
      simp only [impl_ChoicesOf.l0]
      rw [rdOf_get l i hlt]
      exact Ev.pos (by omega) (Ev.pos (by omega) (Ev.pos (by omega) (Ev.bnd c1 (Ev.neg Bool.false_ne_true (Ev.now _)))))
    | true =>
      obtain ⟨r, o, z0, z1, z2⟩ := ih (i + 1) (g ++ [⟨a, b⟩]) (by omega) (by rw [List.length_append, hg]; rfl)
      refine ⟨r, o, z0, c2 rfl _ z1, Ev.step (fun k => rfl) ?_⟩
      simp only [impl_ChoicesOf.l0]
      rw [rdOf_get l i hlt, wrap_succ hlt (by omega)]
      exact Ev.pos (by omega) (Ev.pos (by omega) (Ev.pos (by omega) (Ev.bnd c1 (Ev.pos rfl (Ev.pos (by omega) z2)))))
theorem choices_both (s : ByteArray) (hs : s.size ≤ 1048576) : ∃ (r : List ChT) (o : Bool), r.length ≤ 20 ∧ Ev (fun k => spec_ChoicesOf.f k s) (r, o) ∧ Ev (fun k => impl_ChoicesOf.f k s) (r, o) := by
  obtain ⟨g, ok, g0, gx, g1, g2⟩ := listOf_bothQ Part s (by omega) (fun h3 i j hj => by
    have h0 := trimmed_size (s.extract i j)
    have h1 := extract_size s i j hj
    refine ⟨by omega, ?_⟩
    show Edged (tx (Lib.trimB (s.extract i j).data.toList 32)).data.toList
    rw [tx_data]
    exact trim_edged _)
  have s0 : Ev (fun k => spec_ChoicesOf.j0 k g true) ([], false) := by
    refine Ev.step (fun k => rfl) ?_
    simp only [spec_ChoicesOf.j0]
    exact Ev.pos (by trivial) (Ev.now _)
  have i0 : Ev (fun k => impl_ChoicesOf.j0 k g true) ([], false) := by
    refine Ev.step (fun k => rfl) ?_
    simp only [impl_ChoicesOf.j0]
    exact Ev.pos (by trivial) (Ev.now _)
  unfold spec_ChoicesOf.f impl_ChoicesOf.f
  cases ok with
  | false => exact ⟨[], false, Nat.zero_le _, Ev.bind g1 (Ev.neg Bool.false_ne_true s0), Ev.bind g2 (Ev.neg Bool.false_ne_true i0)⟩
  | true =>
    by_cases h20 : (g.length : Int) > 20
    · have d := decide_eq_true h20
      refine ⟨[], false, Nat.zero_le _, Ev.bind g1 (Ev.pos rfl ?_), Ev.bind g2 (Ev.pos rfl ?_)⟩
      · rw [show decide (((g, true) : List ByteArray × Bool).1.length > (20 : Int)) = true from d]; exact s0
      · rw [show decide (((g, true) : List ByteArray × Bool).1.length > (20 : Int)) = true from d]; exact i0
    · have d := decide_eq_false h20
      obtain ⟨r, o, z0, z1, z2⟩ := choices_loop g (by omega) gx g.length 0 [] (by omega) rfl
      refine ⟨r, o, by omega, Ev.bind g1 (Ev.pos rfl ?_), Ev.bind g2 (Ev.pos rfl ?_)⟩
      · rw [show decide (((g, true) : List ByteArray × Bool).1.length > (20 : Int)) = false from d]
        refine Ev.step (fun k => rfl) ?_
        simp only [spec_ChoicesOf.j0]
        exact Ev.neg (by decide) z1
      · rw [show decide (((g, true) : List ByteArray × Bool).1.length > (20 : Int)) = false from d]
        refine Ev.step (fun k => rfl) ?_
        simp only [impl_ChoicesOf.j0]
        exact Ev.neg (by decide) z2
theorem eq_choices (l : List ChT) (hl : l.length ≤ 1000000000) : Ev (fun k => laws_eqChoiceS.f k l l) true := by
  unfold laws_eqChoiceS.f
  refine Ev.pos rfl (go_to (fun k i => laws_eqChoiceS.l0 k l l i) l.length true ?_ l.length 0 (by omega) (fun j _ hj h => ?_))
  · refine Ev.step (fun k => rfl) ?_
    simp only [laws_eqChoiceS.l0]
    exact Ev.neg (by omega) (Ev.now _)
  · refine Ev.step (fun k => rfl) ?_
    simp only [laws_eqChoiceS.l0]
    rw [wrap_succ hj (by omega)]
    refine Ev.pos (by omega) (Ev.pos (by omega) (Ev.pos (by omega) (Ev.bnd (a := true) ?_ (Ev.pos rfl h))))
    unfold laws_eqChoice.f
    rw [if_pos rfl, if_pos rfl]
theorem mark_choices (l : List ChT) (hl : l.length ≤ 1000000000) : ∃ L : List ChT, Ev (fun k => laws_markChoiceS.f k l 1) (((2 * l.length + 1 : Nat) : Int), L) ∧ Ev (fun k => laws_heldChoiceS.f k L 1) ((2 * l.length + 1 : Nat) : Int) := by
  obtain ⟨T, hT⟩ := marks
  have w1 : ∀ i, i ≤ 1000000000 → wrap64 (((2 * i + 1 : Nat) : Int) + 1) = ((2 * i + 2 : Nat) : Int) := fun i h => by rw [wrap_id (by omega) (by omega)]; omega
  have w2 : ∀ i, i ≤ 1000000000 → wrap64 (((2 * i + 2 : Nat) : Int) + 1) = ((2 * (i + 1) + 1 : Nat) : Int) := fun i h => by rw [wrap_id (by omega) (by omega)]; omega
  have M : ∀ (d i : Nat) (x : List ChT), i + d = l.length → x.length = l.length → (∀ j, j < i → x[j]? = some ⟨T (2 * j + 1), ((2 * j + 2 : Nat) : Int)⟩) →
      ∃ L : List ChT, L.length = l.length ∧ (∀ j, j < l.length → L[j]? = some ⟨T (2 * j + 1), ((2 * j + 2 : Nat) : Int)⟩) ∧ Ev (fun k => laws_markChoiceS.l0 k x ((2 * i + 1 : Nat) : Int) (i : Int)) (((2 * l.length + 1 : Nat) : Int), L) := by
    intro d
    induction d with
    | zero =>
      intro i x hi hx hj
      obtain rfl : i = l.length := by omega
      refine ⟨x, hx, hj, Ev.step (fun k => rfl) ?_⟩
      simp only [laws_markChoiceS.l0]
      exact Ev.neg (by omega) (Ev.now _)
    | succ d ih =>
      intro i x hi hx hj
      have hlt : i < x.length := by omega
      obtain ⟨L, h1, h2, h3⟩ := ih (i + 1) (x.set i ⟨T (2 * i + 1), ((2 * i + 2 : Nat) : Int)⟩) (by omega) (by rw [List.length_set]; exact hx) (fun j hlt => by
        by_cases e : j = i
        · subst e
          rw [List.getElem?_set_self (by omega)]
        · rw [List.getElem?_set_ne (by omega)]
          exact hj j (by omega))
      refine ⟨L, h1, h2, Ev.step (fun k => rfl) ?_⟩
      have e1 : rd_T75 x (i : Int) = x[i] := rd_choice x i hlt
      have e2 : rd_T75 (x.set i (⟨T (2 * i + 1), x[i].f1⟩ : ChT)) (i : Int) = ⟨T (2 * i + 1), x[i].f1⟩ := by
        rw [rd_choice _ i (by rw [List.length_set]; exact hlt), List.getElem_set_self]
      simp only [laws_markChoiceS.l0, Int.toNat_natCast]
      rw [w1 i (by omega), w2 i (by omega), wrap_succ (i := i) (n := l.length) (by omega) (by omega)]
      refine Ev.pos (by omega) (Ev.bind (hT (2 * i + 1) (by omega)) (Ev.pos (by omega) (Ev.bnd rfl ?_)))
      rw [e1, e2, List.set_set]
      exact h3
  obtain ⟨L, h1, h2, h3⟩ := M l.length 0 l (by omega) rfl (fun j h => by omega)
  refine ⟨L, h3, ?_⟩
  have H : ∀ (d i : Nat), i + d = l.length → Ev (fun k => laws_heldChoiceS.l0 k L ((2 * i + 1 : Nat) : Int) (i : Int)) ((2 * l.length + 1 : Nat) : Int) := by
    intro d
    induction d with
    | zero =>
      intro i hi
      obtain rfl : i = l.length := by omega
      refine Ev.step (fun k => rfl) ?_
      simp only [laws_heldChoiceS.l0]
      exact Ev.neg (by omega) (Ev.now _)
    | succ d ih =>
      intro i hi
      have hlt : i < L.length := by omega
      have e : L[i] = ⟨T (2 * i + 1), ((2 * i + 2 : Nat) : Int)⟩ := by
        have := h2 i (by omega)
        rw [List.getElem?_eq_getElem hlt] at this
        exact Option.some.inj this
      refine Ev.step (fun k => rfl) ?_
      simp only [laws_heldChoiceS.l0]
      rw [rd_choice L i hlt, e, w1 i (by omega), w2 i (by omega), wrap_succ hlt (by omega)]
      exact Ev.pos (by omega) (Ev.pos (by omega) (Ev.bind (hT (2 * i + 1) (by omega)) (Ev.pos rfl (Ev.pos rfl (ih (i + 1) (by omega))))))
  exact H l.length 0 (by omega)
theorem FnExactChoicesOf : laws_FnExactChoicesOf.Pure := by
  intro s hs
  apply Ev.rounds
  unfold laws_FnExactChoicesOf.f
  by_cases h0 : (s.size : Int) > 1048576
  · exact Ev.pos h0 (Ev.now _)
  obtain ⟨g, o, g0, g1, g2⟩ := choices_both s (by omega)
  have E := eq_choices g (by omega)
  obtain ⟨G, m1, m2⟩ := mark_choices g (by omega)
  refine Ev.neg h0 (Ev.bind g1 (Ev.bind g2 (Ev.bind E (Ev.pos rfl ?_))))
  rw [show (o != o) = false by simp]
  refine Ev.step (fun k => rfl) ?_
  simp only [laws_FnExactChoicesOf.j0]
  refine Ev.neg (by decide) (Ev.bind m1 (Ev.bind m2 (Ev.neg (by omega) (Ev.pos rfl (Ev.bind g2 (Ev.bind E (Ev.pos rfl ?_)))))))
  rw [show (o != o) = false by simp]
  refine Ev.step (fun k => rfl) ?_
  simp only [laws_FnExactChoicesOf.j1]
  exact Ev.neg (by decide) (Ev.bind m2 (Ev.neg (by omega) (Ev.pos rfl (Ev.now _))))
end Go.Proofs.YtmnddfiidnemiaaDoor.Pure

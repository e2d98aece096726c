/- The pure statement of FnExactSetField: a field is set alike. No condition. -/
import Derived.Test.YtmnddfiidnemiaaDoorF3
import Derived.Test.YtmnddfiidnemiaaDoorF2
import Derived.Test.YtmnddfiidnemiaaDoorQField
import Derived.Test.YtmnddfiidnemiaaDoorQIs
import Derived.Test.YtmnddfiidnemiaaDoorQMarkF
namespace Go.Proofs.YtmnddfiidnemiaaDoor.Pure
set_option linter.unusedVariables false
set_option linter.unusedSimpArgs false
open Go.RowKit Go.Proofs.YtmnddfiidnemiaaDoor.F Go.Proofs.YtmnddfiidnemiaaDoor.Q Go.Proofs.YtmnddfiidnemiaaDoorHw Go.Proofs.YtmnddfiidnemiaaDoorPl Go.Proofs.YtmnddfiidnemiaaDoorW.PrintWords
/-- What is told of a row that may be too long. -/
def told (r : List FdT) : List FdT × Bool := if (r.length : Int) > 40 then ([], false) else (r, true)
theorem set_loop (l : List FdT) (hl : Small l) (n v : ByteArray) (hn : n.size ≤ 9000000) : ∀ (d i : Nat) (o : List FdT) (p : Bool), i + d = l.length → o.length ≤ i →
    ∃ r : List FdT, r.length ≤ l.length + 1 ∧ Ev (fun k => spec_l3Set.l0 k o p l (l.length : Int) (i : Int) n v) r ∧ Ev (fun k => impl_SetField.l0 k o p l (l.length : Int) (i : Int) n v) (told r) := by
  have hL := hl.1
  intro d
  induction d with
  | zero =>
    intro i o p hi ho
    cases p with
    | true =>
      refine ⟨o, by omega, Ev.step (fun k => rfl) ?_, Ev.step (fun k => rfl) ?_⟩
      · simp only [spec_l3Set.l0]; exact Ev.neg (by omega) (Ev.pos (by trivial) (Ev.now _))
      · simp only [impl_SetField.l0, told]
        refine Ev.neg (by omega) (Ev.pos (by trivial) ?_)
        split
        · exact Ev.now _
        · exact Ev.now _
    | false =>
      refine ⟨o ++ [⟨n, v⟩], by rw [List.length_append]; simp; omega, Ev.step (fun k => rfl) ?_, Ev.step (fun k => rfl) ?_⟩
      · simp only [spec_l3Set.l0]; exact Ev.neg (by omega) (Ev.neg (by decide) (Ev.pos (by omega) (Ev.now _)))
      · simp only [impl_SetField.l0, told]
        refine Ev.neg (by omega) (Ev.neg (by decide) (Ev.pos (by omega) (Ev.bnd rfl ?_)))
        split
        · exact Ev.now _
        · exact Ev.now _
  | succ d ih =>
    intro i o p hi ho
    have hlt : i < l.length := by omega
    obtain ⟨s1, s2⟩ := hl.at hlt
    have hs := is_spec l[i].f0 l[i].f1 n (by omega) hn
    have h1 := low_impl l[i].f0 (by omega)
    have h2 := low_impl n hn
    have one : ∀ x : FdT, (o ++ [x]).length ≤ i + 1 := fun x => by rw [List.length_append]; simp; omega
    by_cases hb : isB l[i].f0 n = true
    · cases p with
      | true =>
        obtain ⟨r, z0, z1, z2⟩ := ih (i + 1) o true (by omega) (by omega)
        refine ⟨r, z0, Ev.step (fun k => rfl) ?_, Ev.step (fun k => rfl) ?_⟩
        · simp only [spec_l3Set.l0]
          rw [rd_field l i hlt, wrap_succ hlt (by omega)]
          exact Ev.pos (by omega) (Ev.pos (by omega) (Ev.pos (by omega) (Ev.bnd hs (Ev.pos hb (Ev.pos (by trivial) z1)))))
        · simp only [impl_SetField.l0]
          rw [rd_field l i hlt, wrap_succ hlt (by omega)]
          exact Ev.pos (by omega) (Ev.pos (by omega) (Ev.pos (by omega) (Ev.bnd h1 (Ev.bnd h2 (Ev.pos (eq_of_beq hb) (Ev.pos (by trivial) z2))))))
      | false =>
        obtain ⟨r, z0, z1, z2⟩ := ih (i + 1) (o ++ [⟨l[i].f0, v⟩]) true (by omega) (one _)
        refine ⟨r, z0, Ev.step (fun k => rfl) ?_, Ev.step (fun k => rfl) ?_⟩
        · simp only [spec_l3Set.l0]
          rw [rd_field l i hlt, wrap_succ hlt (by omega)]
          exact Ev.pos (by omega) (Ev.pos (by omega) (Ev.pos (by omega) (Ev.bnd hs (Ev.pos hb (Ev.neg (by decide) (Ev.pos (by omega) z1))))))
        · simp only [impl_SetField.l0]
          rw [rd_field l i hlt, wrap_succ hlt (by omega)]
          exact Ev.pos (by omega) (Ev.pos (by omega) (Ev.pos (by omega) (Ev.bnd h1 (Ev.bnd h2 (Ev.pos (eq_of_beq hb) (Ev.neg (by decide) (Ev.pos (by omega) z2)))))))
    · obtain ⟨r, z0, z1, z2⟩ := ih (i + 1) (o ++ [⟨l[i].f0, l[i].f1⟩]) p (by omega) (one _)
      refine ⟨r, z0, Ev.step (fun k => rfl) ?_, Ev.step (fun k => rfl) ?_⟩
      · simp only [spec_l3Set.l0]
        rw [rd_field l i hlt, wrap_succ hlt (by omega)]
        exact Ev.pos (by omega) (Ev.pos (by omega) (Ev.pos (by omega) (Ev.bnd hs (Ev.neg hb (Ev.pos (by omega) z1)))))
      · simp only [impl_SetField.l0]
        rw [rd_field l i hlt, wrap_succ hlt (by omega)]
        exact Ev.pos (by omega) (Ev.pos (by omega) (Ev.pos (by omega) (Ev.bnd h1 (Ev.bnd h2 (Ev.neg (fun e => hb (beq_iff_eq.2 e)) (Ev.pos (by omega) z2))))))
theorem set_both (l : List FdT) (hl : Small l) (n v : ByteArray) (hn : n.size ≤ 1048576) (hv : v.size ≤ 1048576) : ∃ (g : List FdT) (o : Bool), g.length ≤ 1048577 ∧ Ev (fun k => spec_SetField.f k l n v) (g, o) ∧ Ev (fun k => impl_SetField.f k l n v) (g, o) := by
  have hL := hl.1
  have f1 := fields_spec l hl
  have f2 := fields_impl l hl
  have g1 := good_spec n v (by omega) (by omega)
  have g2 := good_impl n v (by omega) (by omega)
  have s0 : Ev (fun k => spec_SetField.j0 k l true n v) ([], false) := by
    refine Ev.step (fun k => rfl) ?_
    simp only [spec_SetField.j0]
    exact Ev.pos (by trivial) (Ev.now _)
  have i0 : Ev (fun k => impl_SetField.j0 k l true n v) ([], false) := by
    refine Ev.step (fun k => rfl) ?_
    simp only [impl_SetField.j0]
    exact Ev.pos (by trivial) (Ev.now _)
  unfold spec_SetField.f impl_SetField.f
  cases hf : fieldsB l with
  | false =>
    rw [hf] at f1 f2
    exact ⟨[], false, Nat.zero_le _, Ev.bind f1 (Ev.neg Bool.false_ne_true s0), Ev.bnd f2 (Ev.neg Bool.false_ne_true i0)⟩
  | true =>
    rw [hf] at f1 f2
    cases hg : fieldB n v with
    | false =>
      rw [hg] at g1 g2
      exact ⟨[], false, Nat.zero_le _, Ev.bind f1 (Ev.pos rfl (Ev.bind g1 s0)), Ev.bnd f2 (Ev.pos rfl (Ev.bnd g2 i0))⟩
    | true =>
      rw [hg] at g1 g2
      obtain ⟨r, z0, z1, z2⟩ := set_loop l hl n v (by omega) l.length 0 [] false (by omega) (Nat.le_refl _)
      have S : Ev (fun k => spec_l3Set.f k l n v) r := by unfold spec_l3Set.f; exact z1
      have A : Ev (fun k => spec_SetField.j0 k l false n v) (told r) := by
        refine Ev.step (fun k => rfl) ?_
        simp only [spec_SetField.j0, told]
        refine Ev.neg (by decide) (Ev.bind S ?_)
        split
        · exact Ev.now _
        · exact Ev.now _
      have B : Ev (fun k => impl_SetField.j0 k l false n v) (told r) := by
        refine Ev.step (fun k => rfl) ?_
        simp only [impl_SetField.j0]
        exact Ev.neg (by decide) z2
      refine ⟨(told r).1, (told r).2, ?_, Ev.bind f1 (Ev.pos rfl (Ev.bind g1 A)), Ev.bnd f2 (Ev.pos rfl (Ev.bnd g2 B))⟩
      unfold told
      split
      · exact Nat.zero_le _
      · show r.length ≤ _; omega
theorem held_fields (L : List FdT) (hl : L.length ≤ 1000000000) (T : Nat → ByteArray) (hT : ∀ n : Nat, n ≤ 1000000000000 → Ev (fun k => laws_markText.f k (n : Int)) (T n)) (hj : ∀ j, j < L.length → L[j]? = some ⟨T (2 * j + 1), T (2 * j + 2)⟩) :
    Ev (fun k => laws_heldFieldS.f k L 1) ((2 * L.length + 1 : Nat) : Int) := by
  have H : ∀ (d i : Nat), i + d = L.length → Ev (fun k => laws_heldFieldS.l0 k L ((2 * i + 1 : Nat) : Int) (i : Int)) ((2 * L.length + 1 : Nat) : Int) := by
    intro d
    induction d with
    | zero =>
      intro i hi
      obtain rfl : i = L.length := by omega
      refine Ev.step (fun k => rfl) ?_
      simp only [laws_heldFieldS.l0]
      exact Ev.neg (by omega) (Ev.now _)
    | succ d ih =>
      intro i hi
      have hlt : i < L.length := by omega
      have e : L[i] = ⟨T (2 * i + 1), T (2 * i + 2)⟩ := by
        have := hj i hlt
        rw [List.getElem?_eq_getElem hlt] at this
        exact Option.some.inj this
      have w1 : wrap64 (((2 * i + 1 : Nat) : Int) + 1) = ((2 * i + 2 : Nat) : Int) := by rw [wrap_id (by omega) (by omega)]; omega
      have w2 : wrap64 (((2 * i + 2 : Nat) : Int) + 1) = ((2 * (i + 1) + 1 : Nat) : Int) := by rw [wrap_id (by omega) (by omega)]; omega
      refine Ev.step (fun k => rfl) ?_
      simp only [laws_heldFieldS.l0]
      rw [rd_field L i hlt, e, w1, w2, wrap_succ hlt (by omega)]
      exact Ev.pos (by omega) (Ev.pos (by omega) (Ev.bind (hT (2 * i + 1) (by omega)) (Ev.pos rfl (Ev.bind (hT (2 * i + 2) (by omega)) (Ev.pos rfl (ih (i + 1) (by omega)))))))
  exact H L.length 0 (by omega)
theorem FnExactSetField : laws_FnExactSetField.Pure := by
  intro l n v hl hg hn hv
  apply Ev.rounds
  unfold laws_FnExactSetField.f
  obtain ⟨t, et, et2, ht⟩ := sz_fields l hl hg 1048576 (by omega) (by omega)
  refine Ev.bind et ?_
  by_cases h1 : t < 0
  · exact Ev.pos h1 (Ev.now _)
  obtain ⟨u, eu, _, hu⟩ := sz_field n v t hn hv (by omega) et2
  refine Ev.neg h1 (Ev.bnd eu ?_)
  by_cases h2 : u < 0
  · exact Ev.pos h2 (Ev.now _)
  obtain ⟨n1, v1⟩ := hu h2
  have hS := ht h1
  have hml : (l.map fdOf).length = l.length := List.length_map ..
  have hL := hS.1
  have T := to_fields l (by omega)
  obtain ⟨g, o, g0, g1, g2⟩ := set_both (l.map fdOf) hS n v n1 v1
  have E := eq_fields g (by omega)
  have EX := eq_fields (l.map fdOf) (by omega)
  obtain ⟨L, _, hm, _⟩ := mark_fields (l.map fdOf) (by omega)
  obtain ⟨G, G0, m1, W, hW, hj⟩ := mark_fields g (by omega)
  have m2 := held_fields G (by omega) W hW (by rw [G0]; exact hj)
  rw [G0] at m2
  refine Ev.neg h2 (Ev.bind T (Ev.bnd rfl (Ev.bind g1 (Ev.bind T (Ev.bnd rfl (Ev.bind g2 (Ev.bind E (Ev.pos rfl ?_))))))))
  rw [show (o != o) = false by simp]
  refine Ev.step (fun k => rfl) ?_
  simp only [laws_FnExactSetField.j0]
  refine Ev.neg (by decide) (Ev.bind T (Ev.bind EX (Ev.pos rfl (Ev.bind hm (Ev.neg (by omega) (Ev.bind E (Ev.pos rfl ?_)))))))
  rw [show (o != o) = false by simp]
  refine Ev.step (fun k => rfl) ?_
  simp only [laws_FnExactSetField.j1]
  refine Ev.neg (by decide) (Ev.bind m1 (Ev.bind m2 (Ev.neg (by omega) (Ev.pos rfl (Ev.bind T (Ev.bnd rfl (Ev.bind g2 (Ev.bind E (Ev.pos rfl ?_)))))))))
  rw [show (o != o) = false by simp]
  refine Ev.step (fun k => rfl) ?_
  simp only [laws_FnExactSetField.j2]
  exact Ev.neg (by decide) (Ev.bind m2 (Ev.neg (by omega) (Ev.pos rfl (Ev.now _))))
end Go.Proofs.YtmnddfiidnemiaaDoor.Pure

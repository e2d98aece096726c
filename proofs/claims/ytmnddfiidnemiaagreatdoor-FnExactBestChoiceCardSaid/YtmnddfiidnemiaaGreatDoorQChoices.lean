/- Rows of choices: the reference's and the program's readings are one, and no weight is below nought. No condition. -/
import Derived.Test.YtmnddfiidnemiaaGreatDoorQChoice
import Derived.Test.YtmnddfiidnemiaaGreatDoorQListOkQ
namespace Go.Proofs.YtmnddfiidnemiaaGreatDoor.Q
set_option linter.unusedVariables false
set_option linter.unusedSimpArgs false
open Go.RowKit Go.Proofs.YtmnddfiidnemiaaGreatDoor.F Go.Proofs.YtmnddfiidnemiaaGreatDoor.Q Go.Proofs.YtmnddfiidnemiaaGreatDoorHw Go.Proofs.YtmnddfiidnemiaaGreatDoorPl Go.Proofs.YtmnddfiidnemiaaGreatDoorW.PrintWords
theorem rd_choice (l : List ChT) (i : Nat) (h : i < l.length) : rd_T34 l (i : Int) = l[i] := by
  unfold rd_T34
  rw [Int.toNat_natCast, List.getD_eq_getElem?_getD, List.getElem?_eq_getElem h]
  rfl
/-- What holds of a part. -/
def Part (x : ByteArray) : Prop := x.size ≤ 300 ∧ Edged x.data.toList
theorem choices_loop (l : List ByteArray) (hl : l.length ≤ 20) (hs : ∀ x ∈ l, Part x) : ∀ (d i : Nat) (g : List ChT), i + d = l.length → g.length = i → (∀ c ∈ g, 0 ≤ c.f1) →
    ∃ (r : List ChT) (o : Bool), (r.length ≤ l.length ∧ ∀ c ∈ r, 0 ≤ c.f1) ∧ Ev (fun k => spec_ChoicesOf.l0 k g l (l.length : Int) (i : Int)) (r, o) ∧ Ev (fun k => impl_ChoicesOf.l0 k g l (l.length : Int) (i : Int)) (r, o) := by
  intro d
  induction d with
  | zero =>
    intro i g hi hg hw
    refine ⟨g, true, ⟨by omega, hw⟩, Ev.step (fun k => rfl) ?_, Ev.step (fun k => rfl) ?_⟩
    · simp only [spec_ChoicesOf.l0]; exact Ev.neg (by omega) (Ev.now _)
    · simp only [impl_ChoicesOf.l0]; exact Ev.neg (by omega) (Ev.now _)
  | succ d ih =>
    intro i g hi hg hw
    have hlt : i < l.length := by omega
    obtain ⟨hx, he⟩ := hs _ (List.getElem_mem hlt)
    have hL : l[i] = tx l[i].data.toList := (tx_of _).symm
    obtain ⟨a, b, ok, c1, c2, c3, c4⟩ := choice_both l (by omega) i hlt l[i].data.toList hL (by rw [data_len]; exact hx) he g (by omega)
    rw [← hL] at c1
    cases ok with
    | false =>
      refine ⟨[], false, ⟨Nat.zero_le _, fun c h => (by cases h)⟩, c3 rfl, Ev.step (fun k => rfl) ?_⟩
      simp only [impl_ChoicesOf.l0]
      rw [rdOf_get l i hlt]
      exact Ev.pos (by omega) (Ev.pos (by omega) (Ev.pos (by omega) (Ev.bnd c1 (Ev.neg Bool.false_ne_true (Ev.now _)))))
    | true =>
      obtain ⟨r, o, z0, z1, z2⟩ := ih (i + 1) (g ++ [⟨a, b⟩]) (by omega) (by rw [List.length_append, hg]; rfl) (fun c h => by
        rcases List.mem_append.1 h with h | h
        · exact hw c h
        · rw [List.mem_singleton.1 h]; exact c4 rfl)
      refine ⟨r, o, z0, c2 rfl _ z1, Ev.step (fun k => rfl) ?_⟩
      simp only [impl_ChoicesOf.l0]
      rw [rdOf_get l i hlt, wrap_succ hlt (by omega)]
      exact Ev.pos (by omega) (Ev.pos (by omega) (Ev.pos (by omega) (Ev.bnd c1 (Ev.pos rfl (Ev.pos (by omega) z2)))))
theorem choices_both (s : ByteArray) (hs : s.size ≤ 1048576) : ∃ (r : List ChT) (o : Bool), (r.length ≤ 20 ∧ ∀ c ∈ r, 0 ≤ c.f1) ∧ Ev (fun k => spec_ChoicesOf.f k s) (r, o) ∧ Ev (fun k => impl_ChoicesOf.f k s) (r, o) := by
  obtain ⟨g, ok, g0, gx, g1, g2⟩ := listOf_bothQ Part s (by omega) (fun h3 i j hj => by
    have h0 := trimmed_size (s.extract i j)
    have h1 := extract_size s i j hj
    refine ⟨by omega, ?_⟩
    show Edged (tx (Lib.trimB (s.extract i j).data.toList 32)).data.toList
    rw [tx_data]
    exact trim_edged _)
  have s0 : Ev (fun k => spec_ChoicesOf.j0 k g true) ([], false) := by
    refine Ev.step (fun k => rfl) ?_
    simp only [spec_ChoicesOf.j0]
    exact Ev.pos (by trivial) (Ev.now _)
  have i0 : Ev (fun k => impl_ChoicesOf.j0 k g true) ([], false) := by
    refine Ev.step (fun k => rfl) ?_
    simp only [impl_ChoicesOf.j0]
    exact Ev.pos (by trivial) (Ev.now _)
  unfold spec_ChoicesOf.f impl_ChoicesOf.f
  cases ok with
  | false => exact ⟨[], false, ⟨Nat.zero_le _, fun c h => (by cases h)⟩, Ev.bind g1 (Ev.neg Bool.false_ne_true s0), Ev.bind g2 (Ev.neg Bool.false_ne_true i0)⟩
  | true =>
    by_cases h20 : (g.length : Int) > 20
    · have d := decide_eq_true h20
      refine ⟨[], false, ⟨Nat.zero_le _, fun c h => (by cases h)⟩, Ev.bind g1 (Ev.pos rfl ?_), Ev.bind g2 (Ev.pos rfl ?_)⟩
      · rw [show decide (((g, true) : List ByteArray × Bool).1.length > (20 : Int)) = true from d]; exact s0
      · rw [show decide (((g, true) : List ByteArray × Bool).1.length > (20 : Int)) = true from d]; exact i0
    · have d := decide_eq_false h20
      obtain ⟨r, o, z0, z1, z2⟩ := choices_loop g (by omega) gx g.length 0 [] (by omega) rfl (fun c h => by cases h)
      refine ⟨r, o, ⟨by have := z0.1; omega, z0.2⟩, Ev.bind g1 (Ev.pos rfl ?_), Ev.bind g2 (Ev.pos rfl ?_)⟩
      · rw [show decide (((g, true) : List ByteArray × Bool).1.length > (20 : Int)) = false from d]
        refine Ev.step (fun k => rfl) ?_
        simp only [spec_ChoicesOf.j0]
        exact Ev.neg (by decide) z1
      · rw [show decide (((g, true) : List ByteArray × Bool).1.length > (20 : Int)) = false from d]
        refine Ev.step (fun k => rfl) ?_
        simp only [impl_ChoicesOf.j0]
        exact Ev.neg (by decide) z2
end Go.Proofs.YtmnddfiidnemiaaGreatDoor.Q

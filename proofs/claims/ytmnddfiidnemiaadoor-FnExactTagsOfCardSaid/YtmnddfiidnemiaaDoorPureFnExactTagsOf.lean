/- The pure statement of FnExactTagsOf: the tags of a list are told alike. No condition. -/
import Derived.Test.YtmnddfiidnemiaaDoorF3
import Derived.Test.YtmnddfiidnemiaaDoorQReadTag
import Derived.Test.YtmnddfiidnemiaaDoorQListOk
import Derived.Test.YtmnddfiidnemiaaDoorQList
import Derived.Test.YtmnddfiidnemiaaDoorQMarkT
namespace Go.Proofs.YtmnddfiidnemiaaDoor.Pure
set_option linter.unusedVariables false
set_option linter.unusedSimpArgs false
open Go.RowKit Go.Proofs.YtmnddfiidnemiaaDoor.F Go.Proofs.YtmnddfiidnemiaaDoor.Q Go.Proofs.YtmnddfiidnemiaaDoorHw Go.Proofs.YtmnddfiidnemiaaDoorPl Go.Proofs.YtmnddfiidnemiaaDoorW.PrintWords
abbrev TagT : Type := S59
theorem rd_tag (l : List TagT) (i : Nat) (h : i < l.length) : rd_T59 l (i : Int) = l[i] := by
  unfold rd_T59
  rw [Int.toNat_natCast, List.getD_eq_getElem?_getD, List.getElem?_eq_getElem h]
  rfl
theorem in_tags (a b c : Int) : spec_l1In.f a b c = some (decide (b ≤ a) && decide (a ≤ c)) := by
  unfold spec_l1In.f
  by_cases h : a ≥ b
  · rw [if_pos h, decide_eq_true (show b ≤ a from h)]; rfl
  · rw [if_neg h, decide_eq_false (show ¬ b ≤ a from h)]; rfl
theorem within_tags (a b c : Int) : impl_within.f a b c = some (decide (b ≤ a) && decide (a ≤ c)) := by
  unfold impl_within.f
  by_cases h : b ≤ a
  · rw [if_pos h, decide_eq_true h]; rfl
  · rw [if_neg h, decide_eq_false h]; rfl
theorem tags_loop (l : List ByteArray) (hl : l.length ≤ 100000) (hs : ∀ x ∈ l, x.size ≤ 100000) : ∀ (d i : Nat) (g : List TagT), i + d = l.length → g.length = i →
    ∃ (r : List TagT) (o : Bool), r.length ≤ l.length ∧ Ev (fun k => spec_TagsOf.l0 k g l (l.length : Int) (i : Int)) (r, false, o) ∧ Ev (fun k => impl_TagsOf.l0 k g l (l.length : Int) (i : Int)) (r, false, o) := by
  intro d
  induction d with
  | zero =>
    intro i g hi hg
    refine ⟨g, true, by omega, Ev.step (fun k => rfl) ?_, Ev.step (fun k => rfl) ?_⟩
    · simp only [spec_TagsOf.l0]; exact Ev.neg (by omega) (Ev.now _)
    · simp only [impl_TagsOf.l0]; exact Ev.neg (by omega) (Ev.now _)
  | succ d ih =>
    intro i g hi hg
    have hlt : i < l.length := by omega
    have hx := hs _ (List.getElem_mem hlt)
    obtain ⟨⟨w, t, o⟩, r1, r2⟩ := read_both l[i] (by omega)
    cases o with
    | false =>
      refine ⟨[], false, Nat.zero_le _, Ev.step (fun k => rfl) ?_, Ev.step (fun k => rfl) ?_⟩
      · simp only [spec_TagsOf.l0]
        rw [rdOf_get l i hlt]
        exact Ev.pos (by omega) (Ev.pos (by omega) (Ev.pos (by omega) (Ev.bind r1 (Ev.neg Bool.false_ne_true (Ev.now _)))))
      · simp only [impl_TagsOf.l0]
        rw [rdOf_get l i hlt]
        exact Ev.pos (by omega) (Ev.pos (by omega) (Ev.pos (by omega) (Ev.bnd r2 (Ev.neg Bool.false_ne_true (Ev.now _)))))
    | true =>
      obtain ⟨r, o, z0, z1, z2⟩ := ih (i + 1) (g ++ [⟨w, t⟩]) (by omega) (by rw [List.length_append, hg]; rfl)
      refine ⟨r, o, z0, Ev.step (fun k => rfl) ?_, Ev.step (fun k => rfl) ?_⟩
      · simp only [spec_TagsOf.l0]
        rw [rdOf_get l i hlt, wrap_succ hlt (by omega)]
        exact Ev.pos (by omega) (Ev.pos (by omega) (Ev.pos (by omega) (Ev.bind r1 (Ev.pos rfl (Ev.pos (by omega) z1)))))
      · simp only [impl_TagsOf.l0]
        rw [rdOf_get l i hlt, wrap_succ hlt (by omega)]
        exact Ev.pos (by omega) (Ev.pos (by omega) (Ev.pos (by omega) (Ev.bnd r2 (Ev.pos rfl (Ev.pos (by omega) z2)))))
theorem tags_both (s : ByteArray) (hs : s.size ≤ 1048576) : ∃ (r : List TagT) (a o : Bool), r.length ≤ 302 ∧ Ev (fun k => spec_TagsOf.f k s) (r, a, o) ∧ Ev (fun k => impl_TagsOf.f k s) (r, a, o) := by
  obtain ⟨g, ok, g0, gx, g1, g2⟩ := listOf_both s (by omega)
  have s0 : Ev (fun k => spec_TagsOf.j0 k g true) ([], false, false) := by
    refine Ev.step (fun k => rfl) ?_
    simp only [spec_TagsOf.j0]
    exact Ev.pos (by trivial) (Ev.now _)
  have i0 : Ev (fun k => impl_TagsOf.j0 k g true) ([], false, false) := by
    refine Ev.step (fun k => rfl) ?_
    simp only [impl_TagsOf.j0]
    exact Ev.pos (by trivial) (Ev.now _)
  unfold spec_TagsOf.f impl_TagsOf.f
  cases ok with
  | false => exact ⟨[], false, false, Nat.zero_le _, Ev.bind g1 (Ev.neg Bool.false_ne_true s0), Ev.bind g2 (Ev.neg Bool.false_ne_true i0)⟩
  | true =>
    have I1 := in_tags (g.length : Int) 1 20
    have I2 := within_tags (g.length : Int) 1 20
    cases hb : decide (1 ≤ (g.length : Int)) && decide ((g.length : Int) ≤ 20) with
    | false =>
      rw [hb] at I1 I2
      exact ⟨[], false, false, Nat.zero_le _, Ev.bind g1 (Ev.pos rfl (Ev.bnd I1 s0)), Ev.bind g2 (Ev.pos rfl (Ev.bnd I2 i0))⟩
    | true =>
      rw [hb] at I1 I2
      have N : ∃ (r : List TagT) (o : Bool), r.length ≤ 302 ∧ Ev (fun k => spec_TagsOf.j1 k g false) (r, false, o) ∧ Ev (fun k => impl_TagsOf.j1 k g false) (r, false, o) := by
        obtain ⟨r, o, z0, z1, z2⟩ := tags_loop g (by omega) (fun x hx => by have := gx x hx; omega) g.length 0 [] (by omega) rfl
        refine ⟨r, o, by omega, Ev.step (fun k => rfl) ?_, Ev.step (fun k => rfl) ?_⟩
        · simp only [spec_TagsOf.j1]; exact Ev.neg (by decide) z1
        · simp only [impl_TagsOf.j1]; exact Ev.neg (by decide) z2
      have K : ∃ (r : List TagT) (a o : Bool), r.length ≤ 302 ∧ Ev (fun k => spec_TagsOf.j0 k g false) (r, a, o) ∧ Ev (fun k => impl_TagsOf.j0 k g false) (r, a, o) := by
        by_cases h1 : (g.length : Int) = 1
        · cases hq : (rdOf ByteArray.empty g 0).toList == ([42] : List UInt8) with
          | true =>
            refine ⟨[], true, true, Nat.zero_le _, Ev.step (fun k => rfl) ?_, Ev.step (fun k => rfl) ?_⟩
            · simp only [spec_TagsOf.j0]
              rw [hq]
              refine Ev.neg (by decide) (Ev.pos h1 (Ev.pos (by omega) (Ev.step (fun k => rfl) ?_)))
              simp only [spec_TagsOf.j1]
              exact Ev.pos (by trivial) (Ev.now _)
            · simp only [impl_TagsOf.j0]
              rw [hq]
              refine Ev.neg (by decide) (Ev.pos h1 (Ev.pos (by omega) (Ev.step (fun k => rfl) ?_)))
              simp only [impl_TagsOf.j1]
              exact Ev.pos (by trivial) (Ev.now _)
          | false =>
            obtain ⟨r, o, z0, z1, z2⟩ := N
            refine ⟨r, false, o, z0, Ev.step (fun k => rfl) ?_, Ev.step (fun k => rfl) ?_⟩
            · simp only [spec_TagsOf.j0]
              rw [hq]
              exact Ev.neg (by decide) (Ev.pos h1 (Ev.pos (by omega) z1))
            · simp only [impl_TagsOf.j0]
              rw [hq]
              exact Ev.neg (by decide) (Ev.pos h1 (Ev.pos (by omega) z2))
        · obtain ⟨r, o, z0, z1, z2⟩ := N
          refine ⟨r, false, o, z0, Ev.step (fun k => rfl) ?_, Ev.step (fun k => rfl) ?_⟩
          · simp only [spec_TagsOf.j0]
            exact Ev.neg (by decide) (Ev.neg h1 z1)
          · simp only [impl_TagsOf.j0]
            exact Ev.neg (by decide) (Ev.neg h1 z2)
      obtain ⟨r, a, o, z0, z1, z2⟩ := K
      exact ⟨r, a, o, z0, Ev.bind g1 (Ev.pos rfl (Ev.bnd I1 z1)), Ev.bind g2 (Ev.pos rfl (Ev.bnd I2 z2))⟩
theorem eq_tags (l : List TagT) (hl : l.length ≤ 1000000000) : Ev (fun k => laws_eqTagS.f k l l) true := by
  unfold laws_eqTagS.f
  refine Ev.pos rfl (go_to (fun k i => laws_eqTagS.l0 k l l i) l.length true ?_ l.length 0 (by omega) (fun j _ hj h => ?_))
  · refine Ev.step (fun k => rfl) ?_
    simp only [laws_eqTagS.l0]
    exact Ev.neg (by omega) (Ev.now _)
  · refine Ev.step (fun k => rfl) ?_
    simp only [laws_eqTagS.l0]
    rw [wrap_succ hj (by omega)]
    refine Ev.pos (by omega) (Ev.pos (by omega) (Ev.pos (by omega) (Ev.bnd (a := true) ?_ (Ev.pos rfl h))))
    unfold laws_eqTag.f
    rw [bne_self_eq_false, if_neg Bool.false_ne_true, if_pos rfl]
def wk (j : Nat) : Bool := Int.tmod ((2 * j + 1 : Nat) : Int) 3 == 0
theorem mark_tags (l : List TagT) (hl : l.length ≤ 1000000000) : ∃ L : List TagT, Ev (fun k => laws_markTagS.f k l 1) (((2 * l.length + 1 : Nat) : Int), L) ∧ Ev (fun k => laws_heldTagS.f k L 1) ((2 * l.length + 1 : Nat) : Int) := by
  obtain ⟨T, hT⟩ := marks
  have w1 : ∀ i, i ≤ 1000000000 → wrap64 (((2 * i + 1 : Nat) : Int) + 1) = ((2 * i + 2 : Nat) : Int) := fun i h => by rw [wrap_id (by omega) (by omega)]; omega
  have w2 : ∀ i, i ≤ 1000000000 → wrap64 (((2 * i + 2 : Nat) : Int) + 1) = ((2 * (i + 1) + 1 : Nat) : Int) := fun i h => by rw [wrap_id (by omega) (by omega)]; omega
  have M : ∀ (d i : Nat) (x : List TagT), i + d = l.length → x.length = l.length → (∀ j, j < i → x[j]? = some ⟨wk j, T (2 * j + 2)⟩) →
      ∃ L : List TagT, L.length = l.length ∧ (∀ j, j < l.length → L[j]? = some ⟨wk j, T (2 * j + 2)⟩) ∧ Ev (fun k => laws_markTagS.l0 k x ((2 * i + 1 : Nat) : Int) (i : Int)) (((2 * l.length + 1 : Nat) : Int), L) := by
    intro d
    induction d with
    | zero =>
      intro i x hi hx hj
      obtain rfl : i = l.length := by omega
      refine ⟨x, hx, hj, Ev.step (fun k => rfl) ?_⟩
      simp only [laws_markTagS.l0]
      exact Ev.neg (by omega) (Ev.now _)
    | succ d ih =>
      intro i x hi hx hj
      have hlt : i < x.length := by omega
      obtain ⟨L, h1, h2, h3⟩ := ih (i + 1) (x.set i ⟨wk i, T (2 * i + 2)⟩) (by omega) (by rw [List.length_set]; exact hx) (fun j hlt => by
        by_cases e : j = i
        · subst e
          rw [List.getElem?_set_self (by omega)]
        · rw [List.getElem?_set_ne (by omega)]
          exact hj j (by omega))
      refine ⟨L, h1, h2, Ev.step (fun k => rfl) ?_⟩
      have e1 : rd_T59 x (i : Int) = x[i] := rd_tag x i hlt
      have e2 : rd_T59 (x.set i (⟨wk i, x[i].f1⟩ : TagT)) (i : Int) = ⟨wk i, x[i].f1⟩ := by
        rw [rd_tag _ i (by rw [List.length_set]; exact hlt), List.getElem_set_self]
      simp only [laws_markTagS.l0, Int.toNat_natCast]
      rw [w1 i (by omega), w2 i (by omega), wrap_succ (i := i) (n := l.length) (by omega) (by omega), e1, show (Int.tmod ((2 * i + 1 : Nat) : Int) 3 == 0) = wk i from rfl]
      refine Ev.pos (by omega) (Ev.pos (by omega) (Ev.bnd rfl (Ev.bind (hT (2 * i + 2) (by omega)) ?_)))
      rw [e2, List.set_set]
      exact h3
  obtain ⟨L, h1, h2, h3⟩ := M l.length 0 l (by omega) rfl (fun j h => by omega)
  refine ⟨L, h3, ?_⟩
  have H : ∀ (d i : Nat), i + d = l.length → Ev (fun k => laws_heldTagS.l0 k L ((2 * i + 1 : Nat) : Int) (i : Int)) ((2 * l.length + 1 : Nat) : Int) := by
    intro d
    induction d with
    | zero =>
      intro i hi
      obtain rfl : i = l.length := by omega
      refine Ev.step (fun k => rfl) ?_
      simp only [laws_heldTagS.l0]
      exact Ev.neg (by omega) (Ev.now _)
    | succ d ih =>
      intro i hi
      have hlt : i < L.length := by omega
      have e : L[i] = ⟨wk i, T (2 * i + 2)⟩ := by
        have := h2 i (by omega)
        rw [List.getElem?_eq_getElem hlt] at this
        exact Option.some.inj this
      refine Ev.step (fun k => rfl) ?_
      simp only [laws_heldTagS.l0]
      rw [rd_tag L i hlt, e, w1 i (by omega), w2 i (by omega), wrap_succ hlt (by omega), show (Int.tmod ((2 * i + 1 : Nat) : Int) 3 == 0) = wk i from rfl]
      refine Ev.pos (by omega) (Ev.pos (by omega) (Ev.neg ?_ (Ev.bind (hT (2 * i + 2) (by omega)) (Ev.pos rfl (ih (i + 1) (by omega))))))
      show ¬ (wk i != wk i) = true
      rw [bne_self_eq_false]
      exact Bool.false_ne_true
  exact H l.length 0 (by omega)
theorem FnExactTagsOf : laws_FnExactTagsOf.Pure := by
  intro s hs
  apply Ev.rounds
  unfold laws_FnExactTagsOf.f
  by_cases h0 : (s.size : Int) > 1048576
  · exact Ev.pos h0 (Ev.now _)
  obtain ⟨g, a, o, g0, g1, g2⟩ := tags_both s (by omega)
  have E := eq_tags g (by omega)
  obtain ⟨G, m1, m2⟩ := mark_tags g (by omega)
  have ea : ¬ (a != a) = true := by rw [bne_self_eq_false]; exact Bool.false_ne_true
  have eo : (o != o) = false := bne_self_eq_false o
  refine Ev.neg h0 (Ev.bind g1 (Ev.bind g2 (Ev.bind E (Ev.pos rfl (Ev.neg ea ?_)))))
  rw [eo]
  refine Ev.step (fun k => rfl) ?_
  simp only [laws_FnExactTagsOf.j0]
  refine Ev.neg (by decide) (Ev.bind m1 (Ev.bind m2 (Ev.neg (by omega) (Ev.pos rfl (Ev.bind g2 (Ev.bind E (Ev.pos rfl (Ev.neg ea ?_))))))))
  rw [eo]
  refine Ev.step (fun k => rfl) ?_
  simp only [laws_FnExactTagsOf.j1]
  exact Ev.neg (by decide) (Ev.bind m2 (Ev.neg (by omega) (Ev.pos rfl (Ev.now _))))
end Go.Proofs.YtmnddfiidnemiaaDoor.Pure

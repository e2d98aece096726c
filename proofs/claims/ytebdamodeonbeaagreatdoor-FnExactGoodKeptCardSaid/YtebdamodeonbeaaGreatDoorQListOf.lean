/- The parts of a list: the reference's loop and the program's are one. No condition. -/
import Derived.Test.YtebdamodeonbeaaGreatDoorF1
import Derived.Test.YtebdamodeonbeaaGreatDoorF4
import Derived.Test.YtebdamodeonbeaaGreatDoorQTrimL
namespace Go.Proofs.YtebdamodeonbeaaGreatDoor.Q
set_option linter.unusedVariables false
set_option linter.unusedSimpArgs false
open Go.RowKit Go.Proofs.YtebdamodeonbeaaGreatDoor.F Go.Proofs.YtebdamodeonbeaaGreatDoorHw Go.Proofs.YtebdamodeonbeaaGreatDoorPl Go.Proofs.YtebdamodeonbeaaGreatDoorW.PrintWords
theorem list_loop (s : ByteArray) (hs : s.size ≤ 1000000000) : ∀ (d i f : Nat) (g : List ByteArray) (q : Bool), s.size + 1 - i < d → i ≤ s.size + 1 → f ≤ i → g.length ≤ i → (∀ x ∈ g, x.size ≤ s.size) →
    ∃ (r : List ByteArray) (o : Bool), r.length ≤ s.size + 2 ∧ (∀ x ∈ r, x.size ≤ s.size) ∧ Ev (fun k => spec_l3List.l0 k s g (f : Int) q (i : Int)) (r, o) ∧ Ev (fun k => impl_listOf.l0 k s g (f : Int) q (i : Int)) (r, o) := by
  intro d
  induction d with
  | zero => intro i f g q h; omega
  | succ d ih =>
    intro i f g q hd hi hf hg hx
    by_cases h1 : i = s.size + 1
    · refine ⟨g, !q, by omega, hx, Ev.step (fun k => rfl) ?_, Ev.step (fun k => rfl) ?_⟩
      · simp only [spec_l3List.l0]; exact Ev.neg (by omega) (Ev.now _)
      · simp only [impl_listOf.l0]; exact Ev.neg (by omega) (Ev.now _)
    have hle : i ≤ s.size := by omega
    have w1 : wrap64 ((i : Int) + 1) = ((i + 1 : Nat) : Int) := by rw [wrap_id (by omega) (by omega)]; omega
    have w2 : wrap64 (((i + 1 : Nat) : Int) + 1) = ((i + 2 : Nat) : Int) := by rw [wrap_id (by omega) (by omega)]; omega
    have C : ∃ (r : List ByteArray) (o : Bool), r.length ≤ s.size + 2 ∧ (∀ x ∈ r, x.size ≤ s.size) ∧ Ev (fun k => spec_l3List.j1 k s g (f : Int) q (i : Int) true) (r, o) ∧ Ev (fun k => impl_listOf.j1 k s g (f : Int) q (i : Int) true) (r, o) := by
      have hsz : (s.extract f i).size = i - f := extract_size s f i hle
      have t0 := trimmed_size (s.extract f i)
      have t1 := trimmed_spec (s.extract f i) (by omega)
      have t2 := trimmed_impl (s.extract f i) (by omega)
      by_cases he : (trimmed (s.extract f i)).toList = ([] : List UInt8)
      · obtain ⟨r, o, r0, rx, r1, r2⟩ := ih (i + 1) (i + 1) g q (by omega) (by omega) (Nat.le_refl _) (by omega) hx
        refine ⟨r, o, r0, rx, Ev.step (fun k => rfl) ?_, Ev.step (fun k => rfl) ?_⟩
        · simp only [spec_l3List.j1, Int.toNat_natCast]
          rw [w1]
          exact Ev.pos (by trivial) (Ev.pos (by omega) (Ev.pos (by omega) (Ev.pos (by omega) (Ev.bind t1 (Ev.pos he r1)))))
        · simp only [impl_listOf.j1, Int.toNat_natCast]
          rw [w1]
          exact Ev.pos (by trivial) (Ev.pos (by omega) (Ev.pos (by omega) (Ev.pos (by omega) (Ev.bnd t2 (Ev.pos he r2)))))
      · obtain ⟨r, o, r0, rx, r1, r2⟩ := ih (i + 1) (i + 1) (g ++ [trimmed (s.extract f i)]) q (by omega) (by omega) (Nat.le_refl _) (by rw [List.length_append]; simp; omega) (fun x h => by
          rcases List.mem_append.1 h with h | h
          · exact hx x h
          · rw [List.mem_singleton.1 h]; omega)
        refine ⟨r, o, r0, rx, Ev.step (fun k => rfl) ?_, Ev.step (fun k => rfl) ?_⟩
        · simp only [spec_l3List.j1, Int.toNat_natCast]
          rw [w1]
          exact Ev.pos (by trivial) (Ev.pos (by omega) (Ev.pos (by omega) (Ev.pos (by omega) (Ev.bind t1 (Ev.neg he (Ev.pos (by omega) r1))))))
        · simp only [impl_listOf.j1, Int.toNat_natCast]
          rw [w1]
          exact Ev.pos (by trivial) (Ev.pos (by omega) (Ev.pos (by omega) (Ev.pos (by omega) (Ev.bnd t2 (Ev.neg he (Ev.pos (by omega) r2))))))
    by_cases h2 : i = s.size
    · obtain ⟨r, o, r0, rx, r1, r2⟩ := C
      refine ⟨r, o, r0, rx, Ev.step (fun k => rfl) ?_, Ev.step (fun k => rfl) ?_⟩
      · simp only [spec_l3List.l0]; exact Ev.pos (by omega) (Ev.pos (by omega) r1)
      · simp only [impl_listOf.l0]; exact Ev.pos (by omega) (Ev.pos (by omega) r2)
    have hlt : i < s.size := by omega
    -- behind a byte that parts nothing
    have N : ∀ q', ∃ (r : List ByteArray) (o : Bool), r.length ≤ s.size + 2 ∧ (∀ x ∈ r, x.size ≤ s.size) ∧ Ev (fun k => spec_l3List.l0 k s g (f : Int) q' ((i + 1 : Nat) : Int)) (r, o) ∧ Ev (fun k => impl_listOf.l0 k s g (f : Int) q' ((i + 1 : Nat) : Int)) (r, o) :=
      fun q' => ih (i + 1) f g q' (by omega) (by omega) (by omega) (by omega) hx
    have S3 : ∀ q' r, Ev (fun k => spec_l3List.l0 k s g (f : Int) q' ((i + 1 : Nat) : Int)) r → Ev (fun k => spec_l3List.j3 k s g (f : Int) q' (i : Int) false) r := fun q' r h => by
      refine Ev.step (fun k => rfl) ?_
      simp only [spec_l3List.j3]
      rw [w1]
      exact Ev.neg (by decide) h
    have D : bt s (i : Int) ≠ 44 ∨ q = true → ∃ (r : List ByteArray) (o : Bool), r.length ≤ s.size + 2 ∧ (∀ x ∈ r, x.size ≤ s.size) ∧ Ev (fun k => spec_l3List.j1 k s g (f : Int) q (i : Int) false) (r, o) ∧ Ev (fun k => impl_listOf.j1 k s g (f : Int) q (i : Int) false) (r, o) := by
      intro _
      by_cases h34 : bt s (i : Int) = 34
      · have h92 : bt s (i : Int) ≠ 92 := by omega
        obtain ⟨r, o, r0, rx, r1, r2⟩ := N (!q)
        refine ⟨r, o, r0, rx, Ev.step (fun k => rfl) ?_, Ev.step (fun k => rfl) ?_⟩
        · simp only [spec_l3List.j1]
          refine Ev.neg (by decide) (Ev.pos (by omega) (Ev.pos (by omega) (Ev.pos h34 (Ev.step (fun k => rfl) ?_))))
          simp only [spec_l3List.j2]
          exact Ev.pos (by omega) (Ev.pos (by omega) (Ev.neg h92 (S3 _ _ r1)))
        · simp only [impl_listOf.j1]
          rw [w1]
          exact Ev.neg (by decide) (Ev.pos (by omega) (Ev.pos (by omega) (Ev.pos h34 r2)))
      · by_cases h92 : bt s (i : Int) = 92
        · cases q with
          | false =>
            obtain ⟨r, o, r0, rx, r1, r2⟩ := N false
            refine ⟨r, o, r0, rx, Ev.step (fun k => rfl) ?_, Ev.step (fun k => rfl) ?_⟩
            · simp only [spec_l3List.j1]
              refine Ev.neg (by decide) (Ev.pos (by omega) (Ev.pos (by omega) (Ev.neg h34 (Ev.step (fun k => rfl) ?_))))
              simp only [spec_l3List.j2]
              exact Ev.pos (by omega) (Ev.pos (by omega) (Ev.pos h92 (S3 _ _ r1)))
            · simp only [impl_listOf.j1]
              refine Ev.neg (by decide) (Ev.pos (by omega) (Ev.pos (by omega) (Ev.neg h34 (Ev.pos h92 (Ev.step (fun k => rfl) ?_)))))
              simp only [impl_listOf.j2]
              rw [w1]
              exact Ev.neg (by decide) r2
          | true =>
            by_cases hend : i + 1 = s.size
            · refine ⟨[], false, by simp, fun x h => (by cases h), Ev.step (fun k => rfl) ?_, Ev.step (fun k => rfl) ?_⟩
              · simp only [spec_l3List.j1]
                refine Ev.neg (by decide) (Ev.pos (by omega) (Ev.pos (by omega) (Ev.neg h34 (Ev.step (fun k => rfl) ?_))))
                simp only [spec_l3List.j2]
                refine Ev.pos (by omega) (Ev.pos (by omega) (Ev.pos h92 (Ev.step (fun k => rfl) ?_)))
                simp only [spec_l3List.j3]
                rw [w1]
                exact Ev.pos (by trivial) (Ev.pos (by omega) (Ev.now _))
              · simp only [impl_listOf.j1]
                refine Ev.neg (by decide) (Ev.pos (by omega) (Ev.pos (by omega) (Ev.neg h34 (Ev.pos h92 (Ev.step (fun k => rfl) ?_)))))
                simp only [impl_listOf.j2]
                rw [w1]
                exact Ev.pos (by trivial) (Ev.pos (by omega) (Ev.now _))
            · obtain ⟨r, o, r0, rx, r1, r2⟩ := ih (i + 2) f g true (by omega) (by omega) (by omega) (by omega) hx
              refine ⟨r, o, r0, rx, Ev.step (fun k => rfl) ?_, Ev.step (fun k => rfl) ?_⟩
              · simp only [spec_l3List.j1]
                refine Ev.neg (by decide) (Ev.pos (by omega) (Ev.pos (by omega) (Ev.neg h34 (Ev.step (fun k => rfl) ?_))))
                simp only [spec_l3List.j2]
                refine Ev.pos (by omega) (Ev.pos (by omega) (Ev.pos h92 (Ev.step (fun k => rfl) ?_)))
                simp only [spec_l3List.j3]
                rw [w1, w2]
                exact Ev.pos (by trivial) (Ev.neg (by omega) r1)
              · simp only [impl_listOf.j1]
                refine Ev.neg (by decide) (Ev.pos (by omega) (Ev.pos (by omega) (Ev.neg h34 (Ev.pos h92 (Ev.step (fun k => rfl) ?_)))))
                simp only [impl_listOf.j2]
                rw [w1, w2]
                exact Ev.pos (by trivial) (Ev.neg (by omega) r2)
        · obtain ⟨r, o, r0, rx, r1, r2⟩ := N q
          refine ⟨r, o, r0, rx, Ev.step (fun k => rfl) ?_, Ev.step (fun k => rfl) ?_⟩
          · simp only [spec_l3List.j1]
            refine Ev.neg (by decide) (Ev.pos (by omega) (Ev.pos (by omega) (Ev.neg h34 (Ev.step (fun k => rfl) ?_))))
            simp only [spec_l3List.j2]
            exact Ev.pos (by omega) (Ev.pos (by omega) (Ev.neg h92 (S3 _ _ r1)))
          · simp only [impl_listOf.j1]
            refine Ev.neg (by decide) (Ev.pos (by omega) (Ev.pos (by omega) (Ev.neg h34 (Ev.neg h92 (Ev.step (fun k => rfl) ?_)))))
            simp only [impl_listOf.j2]
            rw [w1]
            exact Ev.neg (by decide) r2
    by_cases h44 : bt s (i : Int) = 44
    · have K : ∃ (r : List ByteArray) (o : Bool), r.length ≤ s.size + 2 ∧ (∀ x ∈ r, x.size ≤ s.size) ∧ Ev (fun k => spec_l3List.j1 k s g (f : Int) q (i : Int) (!q)) (r, o) ∧ Ev (fun k => impl_listOf.j1 k s g (f : Int) q (i : Int) (!q)) (r, o) := by
        cases q with
        | false => exact C
        | true => exact D (.inr rfl)
      obtain ⟨r, o, r0, rx, r1, r2⟩ := K
      refine ⟨r, o, r0, rx, Ev.step (fun k => rfl) ?_, Ev.step (fun k => rfl) ?_⟩
      · simp only [spec_l3List.l0]
        exact Ev.pos (by omega) (Ev.neg (by omega) (Ev.pos (by omega) (Ev.pos (by omega) (Ev.pos h44 r1))))
      · simp only [impl_listOf.l0]
        exact Ev.pos (by omega) (Ev.neg (by omega) (Ev.pos (by omega) (Ev.pos (by omega) (Ev.pos h44 r2))))
    · obtain ⟨r, o, r0, rx, r1, r2⟩ := D (.inl h44)
      refine ⟨r, o, r0, rx, Ev.step (fun k => rfl) ?_, Ev.step (fun k => rfl) ?_⟩
      · simp only [spec_l3List.l0]
        exact Ev.pos (by omega) (Ev.neg (by omega) (Ev.pos (by omega) (Ev.pos (by omega) (Ev.neg h44 r1))))
      · simp only [impl_listOf.l0]
        exact Ev.pos (by omega) (Ev.neg (by omega) (Ev.pos (by omega) (Ev.pos (by omega) (Ev.neg h44 r2))))
/-- What both tell of a list. -/
theorem list_both (s : ByteArray) (hs : s.size ≤ 1000000000) : ∃ (r : List ByteArray) (o : Bool), r.length ≤ s.size + 2 ∧ (∀ x ∈ r, x.size ≤ s.size) ∧ Ev (fun k => spec_l3List.f k s) (r, o) ∧ Ev (fun k => impl_listOf.f k s) (r, o) := by
  unfold spec_l3List.f impl_listOf.f
  exact list_loop s hs (s.size + 2) 0 0 [] false (by omega) (by omega) (Nat.le_refl _) (Nat.le_refl _) (fun x h => by cases h)
end Go.Proofs.YtebdamodeonbeaaGreatDoor.Q

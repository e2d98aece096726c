/- One field: the reference's and the program's judgements are one. No condition. -/
import Derived.Test.YtebdamodeonbeaaGreatDoorF1
import Derived.Test.YtebdamodeonbeaaGreatDoorF4
import Derived.Test.YtebdamodeonbeaaGreatDoorQToken
namespace Go.Proofs.YtebdamodeonbeaaGreatDoor.Q
set_option linter.unusedVariables false
set_option linter.unusedSimpArgs false
open Go.RowKit Go.Proofs.YtebdamodeonbeaaGreatDoor.F Go.Proofs.YtebdamodeonbeaaGreatDoorHw Go.Proofs.YtebdamodeonbeaaGreatDoorPl Go.Proofs.YtebdamodeonbeaaGreatDoorW.PrintWords
/-- Neither end is a blank. -/
def edgeB (v : ByteArray) : Bool := decide (Lib.trimB v.data.toList 32 = v.data.toList)
def fieldB (n v : ByteArray) : Bool := tokenB n && ((decide ((v.size : Int) ≤ 300) && (numsOf v).all printed) && edgeB v)
theorem trim_impl (s : ByteArray) (hs : s.size ≤ 9223372036854775807) : strings_Trim.f s (⟨#[32]⟩ : ByteArray) = some ⟨(Lib.trimB s.data.toList 32).toArray⟩ := by
  unfold strings_Trim.f
  exact if_pos ⟨hs, rfl, by decide⟩
theorem good_impl (n v : ByteArray) (hn : n.size ≤ 9223372036854775807) (hv : v.size ≤ 9223372036854775807) : impl_GoodField.f n v = some (fieldB n v) := by
  unfold impl_GoodField.f fieldB edgeB
  rw [token_impl n hn, printed_impl v hv, trim_impl v hv]
  simp only [Option.bind_some, ByteArray.toList_eq]
  have e : ((Lib.trimB v.data.toList 32).toArray.toList == v.data.toList) = decide (Lib.trimB v.data.toList 32 = v.data.toList) := by
    rw [List.toList_toArray, Bool.eq_iff_iff, beq_iff_eq, decide_eq_true_iff]
  cases tokenB n <;> cases (decide ((v.size : Int) ≤ 300) && (numsOf v).all printed) <;> simp [e]
theorem edge_of (v : ByteArray) : edgeB v = true ↔ v.size = 0 ∨ (bt v 0 ≠ 32 ∧ bt v ((v.size - 1 : Nat) : Int) ≠ 32) := by
  unfold edgeB
  rw [decide_eq_true_iff, trimB_same]
  by_cases h : v.size = 0
  · have : v.data.toList = [] := List.eq_nil_of_length_eq_zero (by rw [data_len]; exact h)
    exact ⟨fun _ => .inl h, fun _ => .inl this⟩
  · have hne : v.data.toList ≠ [] := fun e => h (by rw [← data_len, e]; rfl)
    have h1 := head_bt v 32 (by omega)
    have h2 := last_bt v 32 (by omega)
    constructor
    · rintro (e | ⟨a, b⟩)
      · exact absurd e hne
      · exact .inr ⟨fun e => a (h1.2 e), fun e => b (h2.2 e)⟩
    · rintro (e | ⟨a, b⟩)
      · exact absurd e h
      · exact .inr ⟨fun e => a (h1.1 e), fun e => b (h2.1 e)⟩
theorem good_spec (n v : ByteArray) (hn : n.size ≤ 9223372036854775807) (hv : v.size ≤ 9223372036854775807) : Ev (fun k => spec_GoodField.f k n v) (fieldB n v) := by
  unfold spec_GoodField.f fieldB
  refine Ev.bind (token_spec n hn) ?_
  cases tokenB n with
  | false => exact Ev.neg Bool.false_ne_true (Ev.now _)
  | true =>
    refine Ev.pos rfl (Ev.bind (printed_spec v hv) ?_)
    rw [Bool.true_and]
    cases (numsOf v).all printed with
    | false => exact Ev.neg Bool.false_ne_true (Ev.eq (Ev.now _) (by simp))
    | true =>
      refine Ev.pos rfl ?_
      by_cases h3 : (v.size : Int) ≤ 300
      · refine Ev.pos h3 ?_
        rw [decide_eq_true h3, Bool.true_and, Bool.true_and]
        by_cases h0 : v.size = 0
        · exact Ev.pos (by omega) (Ev.eq (Ev.now _) ((edge_of v).2 (.inl h0)).symm)
        · refine Ev.neg (by omega) (Ev.pos (by omega) ?_)
          have e1 : wrap64 ((v.size : Int) - 1) = ((v.size - 1 : Nat) : Int) := by rw [wrap_id (by omega) (by omega)]; omega
          by_cases h4 : bt v 0 = 32
          · refine Ev.pos h4 (Ev.eq (Ev.now _) ?_)
            cases he : edgeB v with
            | false => rfl
            | true =>
              rcases (edge_of v).1 he with h | ⟨h, _⟩
              · exact absurd h h0
              · exact absurd h4 h
          · rw [e1]
            refine Ev.neg h4 (Ev.pos (by omega) (Ev.pos (by omega) (Ev.eq (Ev.now _) ?_)))
            by_cases h5 : bt v ((v.size - 1 : Nat) : Int) = 32
            · rw [h5]
              cases he : edgeB v with
              | false => rfl
              | true =>
                rcases (edge_of v).1 he with h | ⟨_, h⟩
                · exact absurd h h0
                · exact absurd h5 h
            · rw [(edge_of v).2 (.inr ⟨h4, h5⟩), bne_iff_ne]
              exact h5
      · rw [decide_eq_false h3, Bool.false_and, Bool.false_and]
        exact Ev.neg h3 (Ev.now _)
/-- What a good field is. -/
theorem field_of {n v : ByteArray} (h : fieldB n v = true) : n.size ≤ 60 ∧ v.size ≤ 300 := by
  unfold fieldB tokenB at h
  simp only [Bool.and_eq_true, decide_eq_true_eq] at h
  obtain ⟨⟨⟨h1, h2⟩, _⟩, ⟨h3, _⟩, _⟩ := h
  omega
theorem sz_field (a b : ByteArray) (x : Int) (ha : a.size ≤ 9223372036854775807) (hb : b.size ≤ 9223372036854775807) (h0 : 0 ≤ x) (h1 : x ≤ 1048576) :
    ∃ t : Int, laws_szField.f a b x = some t ∧ t ≤ x ∧ (¬ t < 0 → a.size ≤ 1048576 ∧ b.size ≤ 1048576) := by
  unfold laws_szField.f
  have e1 : wrap64 (x - (a.size : Int)) = x - (a.size : Int) := wrap_id (by omega) (by omega)
  rw [e1]
  by_cases g1 : x - (a.size : Int) < 0
  · rw [if_pos g1]; exact ⟨-1, rfl, by omega, fun h => absurd (by decide) h⟩
  have e2 : wrap64 (x - (a.size : Int) - (b.size : Int)) = x - (a.size : Int) - (b.size : Int) := wrap_id (by omega) (by omega)
  rw [if_neg g1, e2]
  by_cases g2 : x - (a.size : Int) - (b.size : Int) < 0
  · rw [if_pos g2]; exact ⟨-1, rfl, by omega, fun h => absurd (by decide) h⟩
  · rw [if_neg g2]; exact ⟨_, rfl, by omega, fun _ => ⟨by omega, by omega⟩⟩
end Go.Proofs.YtebdamodeonbeaaGreatDoor.Q

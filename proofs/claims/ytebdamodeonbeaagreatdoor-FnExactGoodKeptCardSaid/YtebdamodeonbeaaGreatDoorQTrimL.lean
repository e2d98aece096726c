/- Blanks taken off both ends: the reference's loops and the library's Trim are one. No condition. -/
import Derived.Test.YtebdamodeonbeaaGreatDoorF1
import Derived.Test.YtebdamodeonbeaaGreatDoorF3
import Derived.Test.YtebdamodeonbeaaGreatDoorQTx
namespace Go.Proofs.YtebdamodeonbeaaGreatDoor.Q
set_option linter.unusedVariables false
set_option linter.unusedSimpArgs false
open Go.RowKit Go.Proofs.YtebdamodeonbeaaGreatDoor.F Go.Proofs.YtebdamodeonbeaaGreatDoorHw Go.Proofs.YtebdamodeonbeaaGreatDoorPl Go.Proofs.YtebdamodeonbeaaGreatDoorW.PrintWords
theorem trim_back : ∀ (n : Nat) (l : List UInt8), l.length ≤ n → n ≤ 9000000000000000000 → Ev (fun k => spec_l3Trim.l1 k (tx l)) (tx (Lib.trimRightB l 32))
  | 0, l, h, _ => by
    obtain rfl : l = [] := List.eq_nil_of_length_eq_zero (by omega)
    refine Ev.step (fun k => rfl) ?_
    simp only [spec_l3Trim.l1]
    exact Ev.neg (by decide) (Ev.now _)
  | n + 1, l, h, hn => by
    rcases List.eq_nil_or_concat l with rfl | ⟨x, c, rfl⟩
    · exact trim_back n [] (Nat.zero_le _) (by omega)
    · rw [List.concat_eq_append] at h ⊢
      have hsz : (tx (x ++ [c])).size = x.length + 1 := by rw [tx_size, List.length_append]; rfl
      have e1 : wrap64 ((((x.length + 1 : Nat)) : Int) - 1) = (x.length : Int) := by
        have : x.length + 1 ≤ n + 1 := by rw [List.length_append] at h; simpa using h
        rw [wrap_id (by omega) (by omega)]; omega
      have hb := tx_last x c
      have hx : x.length ≤ n := by rw [List.length_append] at h; simp at h; omega
      refine Ev.step (fun k => rfl) ?_
      simp only [spec_l3Trim.l1]
      rw [hsz, e1, hb, Int.toNat_natCast, tx_back]
      refine Ev.pos (by omega) (Ev.pos (by omega) (Ev.pos (by omega) ?_))
      by_cases hc : c = 32
      · subst hc
        rw [trimR_snoc]
        exact Ev.pos rfl (Ev.pos (by omega) (trim_back n x hx (by omega)))
      · rw [trimR_stop _ _ _ hc]
        exact Ev.neg (fun h => hc ((not_32 c).1 h)) (Ev.now _)
theorem trim_l : ∀ (l : List UInt8), l.length ≤ 9000000000000000000 → Ev (fun k => spec_l3Trim.l0 k (tx l)) (tx (Lib.trimB l 32))
  | [], h => by
    refine Ev.step (fun k => rfl) ?_
    simp only [spec_l3Trim.l0]
    refine Ev.neg (by decide) (Ev.step (fun k => rfl) ?_)
    simp only [spec_l3Trim.j1]
    exact trim_back 0 [] (Nat.zero_le _) (by omega)
  | c :: x, h => by
    have hsz : (tx (c :: x)).size = x.length + 1 := by rw [tx_size, List.length_cons]
    have hb := tx_head c x
    have hf := tx_front c x
    refine Ev.step (fun k => rfl) ?_
    simp only [spec_l3Trim.l0]
    rw [hb, hf, hsz]
    refine Ev.pos (by omega) (Ev.pos (by omega) ?_)
    by_cases hc : c = 32
    · subst hc
      rw [trimB_cons]
      exact Ev.pos rfl (Ev.pos (by omega) (trim_l x (by rw [List.length_cons] at h; omega)))
    · rw [trimB_stop _ _ _ hc]
      refine Ev.neg (fun h => hc ((not_32 c).1 h)) (Ev.step (fun k => rfl) ?_)
      simp only [spec_l3Trim.j1]
      exact trim_back (x.length + 1) (c :: x) (Nat.le_of_eq List.length_cons) (by rw [List.length_cons] at h; omega)
/-- A text without blanks at its ends. -/
def trimmed (s : ByteArray) : ByteArray := tx (Lib.trimB s.data.toList 32)
theorem trimmed_size (s : ByteArray) : (trimmed s).size ≤ s.size := by
  unfold trimmed
  rw [tx_size, ← data_len s]
  exact trimB_len _ _
theorem trimmed_spec (s : ByteArray) (hs : s.size ≤ 9000000000000000000) : Ev (fun k => spec_l3Trim.f k s) (trimmed s) := by
  unfold spec_l3Trim.f
  have h := trim_l s.data.toList (by rw [data_len]; exact hs)
  rw [tx_of] at h
  exact h
theorem trimmed_impl (s : ByteArray) (hs : s.size ≤ 9000000000000000000) : strings_Trim.f s (⟨#[32]⟩ : ByteArray) = some (trimmed s) := by
  unfold strings_Trim.f
  exact if_pos ⟨by omega, rfl, by decide⟩
end Go.Proofs.YtebdamodeonbeaaGreatDoor.Q

/- Texts that mark: they are there. No condition. -/
import Derived.Test.YtmnddfiidnemiaaDoorF3
import Derived.Test.YtmnddfiidnemiaaDoorPl
namespace Go.Proofs.YtmnddfiidnemiaaDoor.Q
set_option linter.unusedVariables false
set_option linter.unusedSimpArgs false
open Go.RowKit Go.Proofs.YtmnddfiidnemiaaDoor.F Go.Proofs.YtmnddfiidnemiaaDoorHw Go.Proofs.YtmnddfiidnemiaaDoorPl Go.Proofs.YtmnddfiidnemiaaDoorW.PrintWords
theorem mark_loop : ∀ (d n : Nat) (x : ByteArray), n < d → n + x.size ≤ 9000000000000000000 → ∃ t, Ev (fun k => laws_markText.l0 k (n : Int) x) t
  | 0, n, x, h, _ => by omega
  | d + 1, n, x, h, hs => by
    by_cases h0 : n = 0
    · refine ⟨(⟨#[109]⟩ : ByteArray) ++ x, Ev.step (fun k => rfl) ?_⟩
      simp only [laws_markText.l0]
      exact Ev.neg (by omega) (Ev.pos (by omega) (Ev.now _))
    · have e : wrap64 (Int.tdiv (n : Int) 10) = ((n / 10 : Nat) : Int) := by
        rw [Int.tdiv_eq_ediv_of_nonneg (by omega), wrap_id (by omega) (by omega)]
        omega
      have z : ∀ y : Int, (strOfNums [y] : ByteArray).size = 1 := fun y => by rw [strOfNums_size]; rfl
      obtain ⟨t, ht⟩ := mark_loop d (n / 10) (strOfNums [(wrap64 (48 + (Int.tmod (n : Int) 10))) % 256] ++ x) (by omega) (by rw [ByteArray.size_append, z]; omega)
      refine ⟨t, Ev.step (fun k => rfl) ?_⟩
      simp only [laws_markText.l0]
      rw [e]
      exact Ev.pos (by omega) (Ev.bnd rfl (Ev.pos (by rw [z]; omega) ht))
theorem mark_text (n : Nat) (hn : n ≤ 1000000000000) : ∃ t, Ev (fun k => laws_markText.f k (n : Int)) t := by
  unfold laws_markText.f
  by_cases h0 : n = 0
  · exact ⟨_, Ev.pos (by omega) (Ev.now _)⟩
  · obtain ⟨t, ht⟩ := mark_loop (n + 1) n (⟨#[]⟩ : ByteArray) (by omega) (by show n + 0 ≤ _; omega)
    exact ⟨t, Ev.neg (by omega) ht⟩
theorem marks : ∃ T : Nat → ByteArray, ∀ n : Nat, n ≤ 1000000000000 → Ev (fun k => laws_markText.f k (n : Int)) (T n) := by
  refine ⟨fun n => if h : n ≤ 1000000000000 then Classical.choose (mark_text n h) else ByteArray.empty, fun n hn => ?_⟩
  simp only [dif_pos hn]
  exact Classical.choose_spec (mark_text n hn)
end Go.Proofs.YtmnddfiidnemiaaDoor.Q

/- The pure statement of FnExactReadHex: hexadecimal digits are read alike. No condition. -/
import Derived.Test.YtkckikmgdjblhaaF14
import Derived.Test.YtkckikmgdjblhaaQHex
namespace Go.Proofs.Ytkckikmgdjblhaa.Pure
set_option linter.unusedVariables false
set_option linter.unusedSimpArgs false
open Go.RowKit Go.Proofs.Ytkckikmgdjblhaa.F Go.Proofs.Ytkckikmgdjblhaa.Q Go.Proofs.YtkckikmgdjblhaaHw Go.Proofs.YtkckikmgdjblhaaPl Go.Proofs.YtkckikmgdjblhaaW.PrintWords
/-- A text that is too long, or empty: no number. -/
theorem hex_long (s : ByteArray) (hs : s.size ≤ 9223372036854775807) (hz : ¬ (1 ≤ s.size ∧ s.size ≤ 4)) : ∀ (d i : Nat) (x : Int), i + d = s.size → Ev (fun k => spec_l5Read.l0 k s x (i : Int)) (-1) := by
  intro d
  induction d with
  | zero =>
    intro i x hi
    refine Ev.step (fun k => ?_) (Ev.now _)
    simp only [spec_l5Read.l0]
    rw [if_neg (by omega)]
    unfold spec_l1In.f
    by_cases h : (s.size : Int) ≥ 1
    · rw [if_pos h, show decide ((s.size : Int) ≤ 4) = false by simp; omega]; rfl
    · rw [if_neg h]; rfl
  | succ d ih =>
    intro i x hi
    have hw := wrap_succ (i := i) (n := s.size) (by omega) hs
    obtain ⟨h, h1, h2, h3, h4⟩ := hex_at s (i : Int)
    refine Ev.step (f := fun k => (spec_l1Hex.f k (bt s (i : Int))).bind fun t => if t < 0 then some (-1) else spec_l5Read.l0 k s (wrap64 ((wrap64 (16 * x)) + t)) (wrap64 ((i : Int) + 1))) (fun k => ?_) (Ev.bind h1 ?_)
    · simp only [spec_l5Read.l0]
      rw [if_pos (by omega), if_pos (by omega)]
    · by_cases hh : h < 0
      · exact Ev.pos hh (Ev.now _)
      · refine Ev.neg hh ?_
        rw [hw]
        exact ih (i + 1) _ (by omega)
theorem hex_loop (s : ByteArray) (h1 : 1 ≤ s.size) (h4 : s.size ≤ 4) : ∀ (d i : Nat) (x : Int), i + d = s.size → 0 ≤ x → x < 16 ^ i →
    ∃ (r : Int) (b : Bool), 0 ≤ r ∧ Ev (fun k => spec_l5Read.l0 k s x (i : Int)) (if b then r else -1) ∧ Ev (fun k => impl_ReadHex.l0 k s x (s.size : Int) (i : Int)) (if b then r else 0, b) := by
  intro d
  induction d with
  | zero =>
    intro i x hi h0 hx
    refine ⟨x, true, h0, Ev.step (fun k => ?_) (Ev.now _), Ev.step (fun k => ?_) (Ev.now _)⟩
    · simp only [spec_l5Read.l0]
      rw [if_neg (by omega)]
      unfold spec_l1In.f
      rw [if_pos (by omega), show decide ((s.size : Int) ≤ 4) = true by simp; omega]; rfl
    · simp only [impl_ReadHex.l0]
      rw [if_neg (by omega)]
      rfl
  | succ d ih =>
    intro i x hi h0 hx
    have hw := wrap_succ (i := i) (n := s.size) (by omega) (by omega)
    obtain ⟨h, a1, a2, a3, a4⟩ := hex_at s (i : Int)
    have hp : (16 : Int) ^ i ≤ 4096 := by
      have : i = 0 ∨ i = 1 ∨ i = 2 ∨ i = 3 := by omega
      rcases this with rfl | rfl | rfl | rfl <;> decide
    have st : ∀ k, spec_l5Read.l0 (k + 1) s x (i : Int) = (spec_l1Hex.f k (bt s (i : Int))).bind fun t => if t < 0 then some (-1) else spec_l5Read.l0 k s (wrap64 ((wrap64 (16 * x)) + t)) (wrap64 ((i : Int) + 1)) := fun k => by
      simp only [spec_l5Read.l0]
      rw [if_pos (by omega), if_pos (by omega)]
    by_cases hh : h < 0
    · refine ⟨0, false, by omega, Ev.step st (Ev.bind a1 (Ev.pos hh (Ev.now _))), Ev.step (fun k => ?_) (Ev.now _)⟩
      simp only [impl_ReadHex.l0]
      rw [if_pos (by omega), if_pos (by omega), if_pos (by omega), a2]
      simp only [Option.bind_some]
      rw [if_pos hh]
      rfl
    · have e1 : wrap64 (wrap64 (16 * x) + h) = 16 * x + h := by rw [wrap_id (x := 16 * x) (by omega) (by omega), wrap_id (by omega) (by omega)]
      have e2 : Go.bits .or .i64 (wrap64 (x * 16)) h = 16 * x + h := by rw [wrap_id (x := x * 16) (by omega) (by omega), or4 (by omega) (by omega) (by omega) (by omega) (by omega)]; omega
      obtain ⟨r, b, b0, b1, b2⟩ := ih (i + 1) (16 * x + h) (by omega) (by omega) (by rw [Int.pow_succ]; omega)
      refine ⟨r, b, b0, Ev.step st (Ev.bind a1 (Ev.neg hh ?_)), Ev.step (fun k => ?_) b2⟩
      · rw [hw, e1]; exact b1
      · simp only [impl_ReadHex.l0]
        rw [if_pos (by omega), if_pos (by omega), if_pos (by omega), a2]
        simp only [Option.bind_some]
        rw [if_neg hh, hw, e2]
theorem FnExactReadHex : laws_FnExactReadHex.Pure := by
  intro s hs
  apply Ev.rounds
  unfold laws_FnExactReadHex.f spec_ReadHex.f impl_ReadHex.f spec_l5Read.f
  by_cases h0 : (s.size : Int) > 1048576
  · exact Ev.pos h0 (Ev.now _)
  · refine Ev.neg h0 ?_
    have hin : impl_within.f (s.size : Int) 1 4 = some (decide (1 ≤ s.size ∧ s.size ≤ 4)) := by
      unfold impl_within.f
      by_cases h : (1 : Int) ≤ (s.size : Int)
      · rw [if_pos h]; congr 1; rw [decide_eq_decide]; omega
      · rw [if_neg h]; congr 1; symm; rw [decide_eq_false_iff_not]; omega
    rw [hin]
    simp only [Option.bind_some]
    by_cases h : 1 ≤ s.size ∧ s.size ≤ 4
    · rw [decide_eq_true h]
      simp only [if_true]
      obtain ⟨r, b, b0, b1, b2⟩ := hex_loop s h.1 h.2 s.size 0 0 (by omega) (by omega) (by decide)
      cases b with
      | true => exact Ev.bind (Ev.bind b1 (Ev.neg (by simp; omega) (Ev.now _))) (Ev.bind b2 (Ev.some (by simp)))
      | false => exact Ev.bind (Ev.bind b1 (Ev.pos (by simp) (Ev.now _))) (Ev.bind b2 (Ev.some (by simp)))
    · rw [decide_eq_false h]
      simp only [Bool.false_eq_true, if_false, Option.bind_some]
      exact Ev.bind (Ev.bind (hex_long s (by omega) h s.size 0 0 (by omega)) (Ev.pos (by decide) (Ev.now _))) (Ev.some (by simp))
end Go.Proofs.Ytkckikmgdjblhaa.Pure

/- The pure statement of FnExactQuoteOf: a text is quoted alike. No condition. -/
import Derived.Test.YtkckikmgdjblhaaF9
import Derived.Test.YtkckikmgdjblhaaQPrinted
namespace Go.Proofs.Ytkckikmgdjblhaa.Pure
set_option linter.unusedVariables false
set_option linter.unusedSimpArgs false
open Go.RowKit Go.Proofs.Ytkckikmgdjblhaa.F Go.Proofs.Ytkckikmgdjblhaa.Q Go.Proofs.YtkckikmgdjblhaaHw Go.Proofs.YtkckikmgdjblhaaPl Go.Proofs.YtkckikmgdjblhaaW.PrintWords
theorem quote_loop (s : ByteArray) (hs : s.size ≤ 100) : ∀ (d i : Nat) (xs : List Int), i + d = s.size → xs.length ≤ 2 * i + 1 →
    ∃ r : ByteArray, Ev (fun k => spec_QuoteOf.l0 k s (strOfNums xs) (i : Int)) (r, true) ∧ Ev (fun k => impl_QuoteOf.l0 k s xs (s.size : Int) (i : Int)) (r, true) := by
  intro d
  induction d with
  | zero =>
    intro i xs hi hx
    refine ⟨strOfNums (xs ++ [34]), Ev.step (fun k => ?_) (Ev.now _), Ev.step (fun k => ?_) (Ev.now _)⟩
    · simp only [spec_QuoteOf.l0]; rw [if_neg (by omega), if_pos (by rw [strOfNums_size]; omega), strOfNums_append]; rfl
    · simp only [impl_QuoteOf.l0]; rw [if_neg (by omega), if_pos (by omega)]
  | succ d ih =>
    intro i xs hi hx
    have hlt : i < s.size := by omega
    have hw := wrap_succ (i := i) (n := s.size) hlt (by omega)
    have hx1 := extract_one s i hlt
    have e92 : (⟨#[92]⟩ : ByteArray) = strOfNums [92] := rfl
    by_cases hc : bt s (i : Int) = 34 ∨ bt s (i : Int) = 92
    · obtain ⟨r, i1, i2⟩ := ih (i + 1) ((xs ++ [92]) ++ [bt s (i : Int)]) (by omega) (by simp; omega)
      refine ⟨r, Ev.step (fun k => ?_) i1, Ev.step (fun k => ?_) i2⟩
      · simp only [spec_QuoteOf.l0]
        rw [if_pos (by omega), if_pos (by omega)]
        simp only [hw, Int.toNat_natCast, hx1, e92, ← strOfNums_append, strOfNums_size]
        rcases hc with hc | hc
        · rw [if_pos hc, if_pos (by omega), if_pos (by omega), if_pos (by omega), if_pos (by simp; omega)]
        · rw [if_neg (by omega), if_pos hc, if_pos (by omega), if_pos (by omega), if_pos (by omega), if_pos (by simp; omega)]
      · simp only [impl_QuoteOf.l0, Option.bind_some]
        rw [if_pos (by omega), if_pos (by omega), if_pos (by omega)]
        simp only [hw]
        rcases hc with hc | hc
        · rw [if_pos hc, if_pos (by omega), if_pos (by simp; omega)]
        · rw [if_neg (by omega), if_pos hc, if_pos (by omega), if_pos (by simp; omega)]
    · obtain ⟨r, i1, i2⟩ := ih (i + 1) (xs ++ [bt s (i : Int)]) (by omega) (by simp; omega)
      refine ⟨r, Ev.step (fun k => ?_) i1, Ev.step (fun k => ?_) i2⟩
      · simp only [spec_QuoteOf.l0]
        rw [if_pos (by omega), if_pos (by omega)]
        simp only [hw, Int.toNat_natCast, hx1, ← strOfNums_append, strOfNums_size]
        rw [if_neg (by omega), if_neg (by omega), if_pos (by omega), if_pos (by omega), if_pos (by simp; omega)]
      · simp only [impl_QuoteOf.l0, Option.bind_some]
        rw [if_pos (by omega), if_pos (by omega), if_pos (by omega)]
        simp only [hw]
        rw [if_neg (by omega), if_neg (by omega), if_pos (by omega)]
theorem FnExactQuoteOf : laws_FnExactQuoteOf.Pure := by
  intro s hs
  apply Ev.rounds
  unfold laws_FnExactQuoteOf.f spec_QuoteOf.f impl_QuoteOf.f
  by_cases h0 : (s.size : Int) > 1048576
  · exact Ev.pos h0 (Ev.now _)
  · refine Ev.neg h0 ?_
    have hp := printed_spec s (by omega)
    simp only [printed_impl s (by omega) 100, Option.bind_some]
    have bad : Ev (fun k => spec_QuoteOf.j0 k s true) ((⟨#[]⟩ : ByteArray), false) := Ev.step (fun k => by simp only [spec_QuoteOf.j0]; rfl) (Ev.now _)
    cases hq : (numsOf s).all printed with
    | false =>
      simp only [Bool.and_false, Bool.false_eq_true, if_false]
      rw [hq] at hp
      refine Ev.bind (a := ((⟨#[]⟩ : ByteArray), false)) (Ev.bind hp (Ev.neg (by decide) bad)) (Ev.some (by simp))
    | true =>
      rw [hq] at hp
      by_cases h1 : (s.size : Int) ≤ 100
      · simp only [h1, decide_true, Bool.and_true, if_true]
        obtain ⟨r, i1, i2⟩ := quote_loop s (by omega) s.size 0 [34] (by omega) (by simp)
        have good : Ev (fun k => spec_QuoteOf.j0 k s (decide ((s.size : Int) > 100))) (r, true) := by
          refine Ev.step (fun k => ?_) i1
          simp only [spec_QuoteOf.j0]
          rw [if_neg (by simp; omega)]
          rfl
        exact Ev.bind (a := (r, true)) (Ev.bind hp (Ev.pos rfl good)) (Ev.bind (a := (r, true)) i2 (Ev.some (by simp)))
      · simp only [h1, decide_false, Bool.false_and, Bool.false_eq_true, if_false]
        have bad' : Ev (fun k => spec_QuoteOf.j0 k s (decide ((s.size : Int) > 100))) ((⟨#[]⟩ : ByteArray), false) := by
          rw [show decide ((s.size : Int) > 100) = true by simp; omega]
          exact bad
        exact Ev.bind (a := ((⟨#[]⟩ : ByteArray), false)) (Ev.bind hp (Ev.pos rfl bad')) (Ev.some (by simp))
end Go.Proofs.Ytkckikmgdjblhaa.Pure

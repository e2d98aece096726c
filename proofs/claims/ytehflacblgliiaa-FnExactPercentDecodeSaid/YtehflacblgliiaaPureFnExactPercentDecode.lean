/- The pure statement of FnExactPercentDecode: a text is decoded alike. No condition. -/
import Derived.Test.YtehflacblgliiaaF2
import Derived.Test.YtehflacblgliiaaQPercent
namespace Go.Proofs.Ytehflacblgliiaa.Pure
set_option linter.unusedVariables false
set_option linter.unusedSimpArgs false
open Go.RowKit Go.Proofs.Ytehflacblgliiaa.F Go.Proofs.Ytehflacblgliiaa.Q Go.Proofs.YtehflacblgliiaaHw Go.Proofs.YtehflacblgliiaaPl Go.Proofs.YtehflacblgliiaaW.PrintWords
theorem dec_loop (s : ByteArray) (hs : s.size ≤ 200) : ∀ (d i : Nat) (xs : List Int), s.size ≤ i + d → i ≤ s.size → xs.length ≤ i →
    ∃ r : ByteArray × Bool, Ev (fun k => spec_PercentDecode.l0 k s xs (i : Int)) r ∧ Ev (fun k => impl_PercentDecode.l0 k s xs (i : Int)) r := by
  intro d
  induction d with
  | zero =>
    intro i xs hi hi2 hx
    refine ⟨(strOfNums xs, true), Ev.step (fun k => ?_) (Ev.now _), Ev.step (fun k => ?_) (Ev.now _)⟩
    · simp only [spec_PercentDecode.l0]; rw [if_neg (by omega)]
    · simp only [impl_PercentDecode.l0]; rw [if_neg (by omega)]
  | succ d ih =>
    intro i xs hi hi2 hx
    by_cases hlt : i < s.size
    · have hw := wrap_succ (i := i) (n := s.size) hlt (by omega)
      have w2 : wrap64 ((i : Int) + 2) = ((i + 2 : Nat) : Int) := wrap_add (n := 2) (by omega)
      have w3 : wrap64 (((i + 2 : Nat) : Int) + 1) = ((i + 3 : Nat) : Int) := wrap_add (n := 1) (by omega)
      by_cases hc : bt s (i : Int) = 37
      · obtain ⟨v, v0, v1, p1, p2, p3⟩ := percent_both s (by omega) i hlt
        have st : ∀ k, spec_PercentDecode.l0 (k + 1) s xs (i : Int) = (spec_l1Byte.f k s (i : Int)).bind fun t => if t < 0 then some ((⟨#[]⟩ : ByteArray), false) else if xs.length < 140737488355328 then spec_PercentDecode.l0 k s (xs ++ [t % 256]) (((i + 3 : Nat) : Int)) else none := fun k => by
          simp only [spec_PercentDecode.l0]
          rw [if_pos (by omega), if_pos (by omega), if_pos hc, w2, w3]
        have st' : ∀ k, impl_PercentDecode.l0 (k + 1) s xs (i : Int) = (impl_percent.f k (s.extract i s.size)).bind fun b => if b.2 = true then if xs.length < 140737488355328 then impl_PercentDecode.l0 k s (xs ++ [b.1]) (((i + 3 : Nat) : Int)) else none else some ((⟨#[]⟩ : ByteArray), false) := fun k => by
          simp only [impl_PercentDecode.l0]
          rw [if_pos (by omega), if_pos (by omega), if_pos hc, if_pos (by omega), w2, w3, Int.toNat_natCast]
        by_cases hv : v < 0
        · rw [if_pos hv] at p2
          exact ⟨((⟨#[]⟩ : ByteArray), false), Ev.step st (Ev.bind p1 (Ev.pos hv (Ev.now _))), Ev.step st' (Ev.bind p2 (Ev.neg (by decide) (Ev.now _)))⟩
        · rw [if_neg hv] at p2
          obtain ⟨q1, q2⟩ := p3 (by omega)
          obtain ⟨r, i1, i2⟩ := ih (i + 3) (xs ++ [v]) (by omega) (by omega) (by simp; omega)
          refine ⟨r, Ev.step st (Ev.bind p1 (Ev.neg hv (Ev.pos (by omega) ?_))), Ev.step st' (Ev.bind p2 (Ev.pos rfl (Ev.pos (by omega) i2)))⟩
          rw [show v % 256 = v by omega]
          exact i1
      · obtain ⟨r, i1, i2⟩ := ih (i + 1) (xs ++ [bt s (i : Int)]) (by omega) (by omega) (by simp; omega)
        refine ⟨r, Ev.step (fun k => ?_) i1, Ev.step (fun k => ?_) i2⟩
        · simp only [spec_PercentDecode.l0]
          rw [if_pos (by omega), if_pos (by omega), if_neg hc, if_pos (by omega), hw]
        · simp only [impl_PercentDecode.l0]
          rw [if_pos (by omega), if_pos (by omega), if_neg hc, if_pos (by omega), hw]
    · refine ⟨(strOfNums xs, true), Ev.step (fun k => ?_) (Ev.now _), Ev.step (fun k => ?_) (Ev.now _)⟩
      · simp only [spec_PercentDecode.l0]; rw [if_neg (by omega)]
      · simp only [impl_PercentDecode.l0]; rw [if_neg (by omega)]
theorem FnExactPercentDecode : laws_FnExactPercentDecode.Pure := by
  intro s hs
  apply Ev.rounds
  unfold laws_FnExactPercentDecode.f spec_PercentDecode.f impl_PercentDecode.f
  by_cases h0 : (s.size : Int) > 1048576
  · exact Ev.pos h0 (Ev.now _)
  · refine Ev.neg h0 ?_
    by_cases h : (s.size : Int) > 200
    · simp only [if_pos h]
      exact Ev.some (by simp)
    · simp only [if_neg h]
      obtain ⟨r, i1, i2⟩ := dec_loop s (by omega) s.size 0 [] (by omega) (by omega) (by simp)
      exact Ev.bind i1 (Ev.bind i2 (Ev.some (by simp)))
end Go.Proofs.Ytehflacblgliiaa.Pure

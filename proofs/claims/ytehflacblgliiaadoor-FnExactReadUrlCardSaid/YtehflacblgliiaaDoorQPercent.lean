/- A % with two digits: the reference's and the program's readings are one. No condition. -/
import Derived.Test.YtehflacblgliiaaDoorF1
import Derived.Test.YtehflacblgliiaaDoorF2
import Derived.Test.YtehflacblgliiaaDoorQHex
namespace Go.Proofs.YtehflacblgliiaaDoor.Q
set_option linter.unusedVariables false
set_option linter.unusedSimpArgs false
open Go.RowKit Go.Proofs.YtehflacblgliiaaDoor.F Go.Proofs.YtehflacblgliiaaDoorHw Go.Proofs.YtehflacblgliiaaDoorPl Go.Proofs.YtehflacblgliiaaDoorW.PrintWords
theorem percent_both (s : ByteArray) (hs : s.size ≤ 9000000000000000000) (i : Nat) (hi : i < s.size) : ∃ v : Int, -1 ≤ v ∧ v ≤ 255 ∧ Ev (fun k => spec_l1Byte.f k s (i : Int)) v ∧
    Ev (fun k => impl_percent.f k (s.extract i s.size)) (if v < 0 then (0, false) else (v, true)) ∧ (0 ≤ v → i + 2 < s.size ∧ bt s (i : Int) = 37) := by
  have hz : (s.extract i s.size).size = s.size - i := extract_size s i s.size (by omega)
  have w1 : wrap64 ((i : Int) + 1) = ((i + 1 : Nat) : Int) := wrap_add (n := 1) (by omega)
  have w2 : wrap64 ((i : Int) + 2) = ((i + 2 : Nat) : Int) := wrap_add (n := 2) (by omega)
  have js : Ev (fun k => spec_l1Byte.j0 k s (i : Int) true) (-1) := Ev.step (fun k => by simp only [spec_l1Byte.j0]; rfl) (Ev.now _)
  have ji : Ev (fun k => impl_percent.j0 k (s.extract i s.size) true) (0, false) := Ev.step (fun k => by simp only [impl_percent.j0]; rfl) (Ev.now _)
  unfold spec_l1Byte.f impl_percent.f
  rw [w2, hz]
  by_cases hl : s.size ≤ i + 2
  · refine ⟨-1, by omega, by omega, Ev.pos (by omega) js, ?_, by omega⟩
    rw [if_pos (by omega)]
    exact Ev.pos (by omega) ji
  · have e0 : bt (s.extract i s.size) 0 = bt s (i : Int) := bt_extract s i s.size 0 (by omega)
    have e1 : bt (s.extract i s.size) 1 = bt s ((i + 1 : Nat) : Int) := bt_extract s i s.size 1 (by omega)
    have e2 : bt (s.extract i s.size) 2 = bt s ((i + 2 : Nat) : Int) := bt_extract s i s.size 2 (by omega)
    by_cases h37 : bt s (i : Int) = 37
    · obtain ⟨h, a1, a2, a3, a4⟩ := hex_at s ((i + 1 : Nat) : Int)
      obtain ⟨g, b1, b2, b3, b4⟩ := hex_at s ((i + 2 : Nat) : Int)
      have jf : Ev (fun k => spec_l1Byte.j0 k s (i : Int) false) (if h < 0 then -1 else if g < 0 then -1 else 16 * h + g) := by
        refine Ev.step (f := fun k => (spec_l1Hex.f k (bt s ((i + 1 : Nat) : Int))).bind fun t => (spec_l1Hex.f k (bt s ((i + 2 : Nat) : Int))).bind fun u => if t < 0 then some (-1) else if u < 0 then some (-1) else some (wrap64 ((wrap64 (16 * t)) + u))) (fun k => ?_) (Ev.bind a1 (Ev.bind b1 ?_))
        · simp only [spec_l1Byte.j0]
          rw [if_neg (by decide), w1, w2, if_pos (by omega), if_pos (by omega)]
          have p2 : (0 : Int) ≤ ((i + 2 : Nat) : Int) := by omega
          have q2 : ((i + 2 : Nat) : Int) < (s.size : Int) := by omega
          simp only [if_pos p2, if_pos q2]
        · refine Ev.some ?_
          rw [wrap_id (x := 16 * h) (by omega) (by omega), wrap_id (x := 16 * h + g) (by omega) (by omega)]
          split
          · rfl
          · split <;> rfl
      have e3 : (bt s (i : Int) != 37) = false := by rw [h37]; rfl
      refine ⟨if h < 0 then -1 else if g < 0 then -1 else 16 * h + g, ?_, ?_, ?_, ?_, ?_⟩
      · split
        · omega
        · split <;> omega
      · split
        · omega
        · split <;> omega
      · refine Ev.neg (by omega) (Ev.pos (by omega) (Ev.pos (by omega) ?_))
        rw [e3]
        exact jf
      · refine Ev.neg (by omega) (Ev.pos (by omega) (Ev.pos (e0.trans h37) (Ev.pos (by omega) ?_)))
        rw [e1, e2]
        refine Ev.bnd a2 ?_
        by_cases hh : h < 0
        · rw [if_pos hh]
          exact Ev.pos hh ji
        · rw [if_neg hh]
          refine Ev.neg hh (Ev.pos (by omega) (Ev.bnd b2 ?_))
          by_cases hg : g < 0
          · rw [if_pos hg, decide_eq_true hg]
            exact ji
          · rw [if_neg hg, decide_eq_false hg, if_neg (by omega)]
            refine Ev.step (fun k => ?_) (Ev.now _)
            simp only [impl_percent.j0]
            rw [if_neg (by decide), hz, if_pos (by omega), e1, a2]
            simp only [Option.bind_some]
            rw [if_pos (by omega), e2, b2]
            simp only [Option.bind_some]
            rw [wrap_id (x := h * 16) (by omega) (by omega), or4 (by omega) (by omega) (by omega) (by omega) (by omega)]
            congr 2
            omega
      · intro _
        exact ⟨by omega, h37⟩
    · have e3 : (bt s (i : Int) != 37) = true := by simpa using h37
      refine ⟨-1, by omega, by omega, Ev.neg (by omega) (Ev.pos (by omega) (Ev.pos (by omega) ?_)), ?_, by omega⟩
      · rw [e3]; exact js
      · rw [if_pos (by omega)]
        exact Ev.neg (by omega) (Ev.pos (by omega) (Ev.neg (by rw [e0]; exact h37) ji))
end Go.Proofs.YtehflacblgliiaaDoor.Q

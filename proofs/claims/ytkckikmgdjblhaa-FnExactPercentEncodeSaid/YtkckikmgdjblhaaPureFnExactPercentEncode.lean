/- The pure statement of FnExactPercentEncode: a text of at most 60 bytes is encoded alike byte for byte. No condition. -/
import Derived.Test.YtkckikmgdjblhaaF7
import Derived.Test.YtkckikmgdjblhaaPl
namespace Go.Proofs.Ytkckikmgdjblhaa.Pure
set_option linter.unusedVariables false
set_option linter.unusedSimpArgs false
open Go.RowKit Go.Proofs.Ytkckikmgdjblhaa.F Go.Proofs.YtkckikmgdjblhaaHw Go.Proofs.YtkckikmgdjblhaaPl Go.Proofs.YtkckikmgdjblhaaW.PrintWords
set_option maxRecDepth 100000 in
theorem enc_byte : ∀ b : Fin 256, spec_l1Free.f (b.val : Int) = impl_isUnreserved.f (b.val : Int) ∧ (impl_isUnreserved.f (b.val : Int)).isSome = true ∧ spec_l1Percent.f (b.val : Int) = impl_encoded.f (b.val : Int) ∧ (impl_encoded.f (b.val : Int)).map ByteArray.size = some 3 := by decide +kernel
theorem enc_loop (s : ByteArray) (hs : s.size ≤ 60) : ∀ (d i : Nat) (xs : List Int), i + d = s.size → xs.length ≤ 3 * i →
    ∃ r : ByteArray, Ev (fun k => spec_PercentEncode.l0 k s (strOfNums xs) (i : Int)) (r, true) ∧ Ev (fun k => impl_PercentEncode.l0 k s xs (s.size : Int) (i : Int)) (r, true) := by
  intro d
  induction d with
  | zero =>
    intro i xs hi hx
    refine ⟨strOfNums xs, Ev.step (fun k => ?_) (Ev.now _), Ev.step (fun k => ?_) (Ev.now _)⟩
    · simp only [spec_PercentEncode.l0]; rw [if_neg (by omega)]
    · simp only [impl_PercentEncode.l0]; rw [if_neg (by omega)]
  | succ d ih =>
    intro i xs hi hx
    have hlt : i < s.size := by omega
    have hw := wrap_succ (i := i) (n := s.size) hlt (by omega)
    obtain ⟨b, hb⟩ := bt_byte s (i : Int)
    obtain ⟨h1, h2, h3, h4⟩ := enc_byte b
    rw [← hb] at h1 h2 h3 h4
    obtain ⟨t, ht⟩ := Option.isSome_iff_exists.1 h2
    rw [ht] at h1
    have hx1 := extract_one s i hlt
    cases t with
    | true =>
      obtain ⟨r, i1, i2⟩ := ih (i + 1) (xs ++ [bt s (i : Int)]) (by omega) (by simp; omega)
      refine ⟨r, Ev.step (fun k => ?_) i1, Ev.step (fun k => ?_) i2⟩
      · simp only [spec_PercentEncode.l0]
        rw [if_pos (by omega), if_pos (by omega), h1]
        simp only [Option.bind_some, if_true, hw, Int.toNat_natCast]
        rw [hx1, if_pos (by omega), if_pos (by omega), if_pos (by rw [strOfNums_size, strOfNums_size]; simp; omega), strOfNums_append]
      · simp only [impl_PercentEncode.l0]
        rw [if_pos (by omega), if_pos (by omega), if_pos (by omega), ht]
        simp only [Option.bind_some, if_true, hw]
        rw [if_pos (by omega)]
    | false =>
      obtain ⟨e, he, hz⟩ := Option.map_eq_some_iff.1 h4
      rw [he] at h3
      obtain ⟨r, i1, i2⟩ := ih (i + 1) (xs ++ bytesOf e) (by omega) (by rw [List.length_append, bytesOf_length]; omega)
      refine ⟨r, Ev.step (fun k => ?_) i1, Ev.step (fun k => ?_) i2⟩
      · simp only [spec_PercentEncode.l0]
        rw [if_pos (by omega), if_pos (by omega), h1]
        simp only [Option.bind_some, Bool.false_eq_true, if_false, h3, hw]
        rw [if_pos (by rw [strOfNums_size]; omega), strOfNums_append, bytesOf_numsOf, strOfNums_numsOf]
      · simp only [impl_PercentEncode.l0]
        rw [if_pos (by omega), if_pos (by omega), if_pos (by omega), ht]
        simp only [Option.bind_some, Bool.false_eq_true, if_false, he, hw]
        rw [if_pos (by omega)]
theorem FnExactPercentEncode : laws_FnExactPercentEncode.Pure := by
  intro s hs
  apply Ev.rounds
  unfold laws_FnExactPercentEncode.f spec_PercentEncode.f impl_PercentEncode.f
  by_cases h0 : (s.size : Int) > 1048576
  · exact Ev.pos h0 (Ev.now _)
  · refine Ev.neg h0 ?_
    by_cases h : (s.size : Int) > 60
    · simp only [if_pos h]
      exact Ev.some (by simp)
    · simp only [if_neg h]
      obtain ⟨r, i1, i2⟩ := enc_loop s (by omega) s.size 0 [] (by omega) (by simp)
      refine Ev.bind (a := (r, true)) i1 (Ev.bind (a := (r, true)) i2 ?_)
      exact Ev.some (by simp)
end Go.Proofs.Ytkckikmgdjblhaa.Pure

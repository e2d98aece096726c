/- What has come of chunks so far: the reference's and the program's judgements are one. No condition. -/
import Derived.Test.YtoepojgolefgkaaF4
import Derived.Test.YtoepojgolefgkaaF9
import Derived.Test.YtoepojgolefgkaaF2
import Derived.Test.YtoepojgolefgkaaQChunks
namespace Go.Proofs.Ytoepojgolefgkaa.Q
open Go.RowKit Go.Proofs.Ytoepojgolefgkaa.F Go.Proofs.YtoepojgolefgkaaHw Go.Proofs.YtoepojgolefgkaaPl Go.Proofs.YtoepojgolefgkaaW.PrintWords
set_option linter.unusedVariables false
set_option linter.unusedSimpArgs false
theorem toList_nil {s : ByteArray} : s.toList = ([] : List UInt8) ↔ s.size = 0 := by
  rw [ByteArray.toList_eq]
  constructor
  · intro h
    have := congrArg List.length h
    rw [Array.length_toList] at this
    exact this
  · intro h
    apply List.eq_nil_of_length_eq_zero
    rw [Array.length_toList]; exact h
theorem nil_beq {s : ByteArray} : (s.toList == ([] : List UInt8)) = decide (s.size = 0) := by
  rw [Bool.eq_iff_iff, beq_iff_eq, decide_eq_true_iff]; exact toList_nil
/-- Is it good? -/
theorem good_eq (b r : ByteArray) (d w : Bool) (hr : r.size ≤ 4611686018427387904) : ∃ g : Bool,
    Ev (fun k => spec_GoodUnchunk.f k b r d w) g ∧ Ev (fun k => impl_GoodUnchunk.f k b r d w) g ∧ (g = true → d = false → w = false → r.size ≤ 1200) := by
  unfold spec_GoodUnchunk.f impl_GoodUnchunk.f
  cases w with
  | true =>
    refine ⟨decide (b.size = 0) && (decide (r.size = 0) && !d), ?_, ?_, fun _ _ h => by cases h⟩
    · by_cases h1 : (r.size : Int) > 4000
      · refine Ev.eq (Ev.pos h1 (Ev.now _)) ?_
        rw [decide_eq_false (show ¬ r.size = 0 by omega)]; simp
      · refine Ev.neg h1 (Ev.pos rfl ?_)
        cases d with
        | true => exact Ev.eq (Ev.pos rfl (Ev.now _)) (by simp)
        | false =>
          refine Ev.neg (by decide) ?_
          by_cases h2 : b.toList = ([] : List UInt8)
          · refine Ev.eq (Ev.pos h2 (Ev.now _)) ?_
            rw [nil_beq, decide_eq_true (toList_nil.1 h2)]; simp
          · refine Ev.eq (Ev.neg h2 (Ev.now _)) ?_
            rw [decide_eq_false (fun h => h2 (toList_nil.2 h))]; simp
    · refine Ev.eq (Ev.pos rfl (Ev.now _)) ?_
      rw [nil_beq, nil_beq]; simp
  | false =>
    by_cases h1 : (r.size : Int) > 4000
    · exact ⟨false, Ev.pos h1 (Ev.now _), Ev.neg (by decide) (Ev.pos h1 (Ev.now _)), fun h => by cases h⟩
    · cases d with
      | true => exact ⟨decide ((b.size : Int) ≤ 300), Ev.neg h1 (Ev.neg (by decide) (Ev.pos rfl (Ev.now _))), Ev.neg (by decide) (Ev.neg h1 (Ev.pos rfl (Ev.now _))), fun _ h => by cases h⟩
      | false =>
        obtain ⟨bd, q, c, k1, k2, k3⟩ := read_eq r hr
        by_cases h2 : b.toList = ([] : List UInt8)
        · refine ⟨c == 1, Ev.neg h1 (Ev.neg (by decide) (Ev.neg (by decide) (Ev.bind k1 (Ev.pos h2 (Ev.now _))))), Ev.neg (by decide) (Ev.neg h1 (Ev.neg (by decide) (Ev.bind k2 (Ev.pos h2 (Ev.now _))))), fun h _ _ => ?_⟩
          have hc : c = 1 := beq_iff_eq.1 h
          rcases k3 with ⟨e, _⟩ | ⟨_, e, _⟩ | ⟨e, _⟩
          · omega
          · exact e
          · omega
        · exact ⟨false, Ev.neg h1 (Ev.neg (by decide) (Ev.neg (by decide) (Ev.bind k1 (Ev.neg h2 (Ev.now _))))), Ev.neg (by decide) (Ev.neg h1 (Ev.neg (by decide) (Ev.bind k2 (Ev.neg h2 (Ev.now _))))), fun h => by cases h⟩
/-- The test of sizes that the laws begin with. -/
theorem sz_unchunk (b r : ByteArray) (d w : Bool) (hb : b.size ≤ 9223372036854775807) (hr : r.size ≤ 9223372036854775807) : ∃ t : Int, laws_szUnchunk.f b r d w 1048576 = some t ∧ (¬ t < 0 → b.size ≤ 1048576 ∧ r.size ≤ 1048576) := by
  unfold laws_szUnchunk.f
  have e1 : wrap64 (1048576 - (b.size : Int)) = 1048576 - (b.size : Int) := wrap_id (by omega) (by omega)
  rw [e1]
  by_cases h1 : 1048576 - (b.size : Int) < 0
  · rw [if_pos h1]; exact ⟨-1, rfl, fun h => absurd (by decide) h⟩
  · have e2 : wrap64 (1048576 - (b.size : Int) - (r.size : Int)) = 1048576 - (b.size : Int) - (r.size : Int) := wrap_id (by omega) (by omega)
    rw [if_neg h1, e2]
    by_cases h2 : 1048576 - (b.size : Int) - (r.size : Int) < 0
    · rw [if_pos h2]; exact ⟨-1, rfl, fun h => absurd (by decide) h⟩
    · rw [if_neg h2]; exact ⟨_, rfl, fun _ => ⟨by omega, by omega⟩⟩
end Go.Proofs.Ytoepojgolefgkaa.Q

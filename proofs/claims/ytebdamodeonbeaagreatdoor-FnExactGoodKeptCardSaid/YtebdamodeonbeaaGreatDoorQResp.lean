/- Responses: the reference's and the program's judgements are one. No condition. -/
import Derived.Test.YtebdamodeonbeaaGreatDoorF3
import Derived.Test.YtebdamodeonbeaaGreatDoorF5
import Derived.Test.YtebdamodeonbeaaGreatDoorF1
import Derived.Test.YtebdamodeonbeaaGreatDoorQMsg
import Derived.Test.YtebdamodeonbeaaGreatDoorQItoa
namespace Go.Proofs.YtebdamodeonbeaaGreatDoor.Q
set_option linter.unusedVariables false
set_option linter.unusedSimpArgs false
open Go.RowKit Go.Proofs.YtebdamodeonbeaaGreatDoor.F Go.Proofs.YtebdamodeonbeaaGreatDoorHw Go.Proofs.YtebdamodeonbeaaGreatDoorPl Go.Proofs.YtebdamodeonbeaaGreatDoorW.PrintWords
theorem ver_size : (⟨#[72, 84, 84, 80, 47, 49, 46, 49, 32]⟩ : ByteArray).size = 9 := rfl
theorem one_sp : (⟨#[32]⟩ : ByteArray).size = 1 := rfl
/-- What both tell of a response; of a good one, its first line and its head. -/
theorem resp_both (n : Int) (t : ByteArray) (l : List FdT) (b : ByteArray) (ht : t.size ≤ 1048576) (hl : Small l) (hb : b.size ≤ 1048576) :
    ∃ r : Bool, Ev (fun k => spec_GoodResponse.f k n t l b) r ∧ Ev (fun k => impl_GoodResponse.f k n t l b) r ∧
      (r = true → ∃ line T : ByteArray, T.size ≤ 9000000000000 ∧ Ev (fun k => spec_l4Status.f k n t l b) line ∧ impl_responseLine.f n t l b = some line ∧ Ev (fun k => spec_l4Head.f k line l) T ∧ Ev (fun k => impl_headText.f k line l) T) := by
  have P1 := printed_spec t (by omega)
  have P2 := printed_impl t (by omega) 40
  have R1 : Ev (fun k => spec_l4Reason.f k t) ((numsOf t).all printed && decide ((t.size : Int) ≤ 40)) := by
    unfold spec_l4Reason.f
    exact Ev.andB P1 (Ev.now _)
  have I1 := in_tok n 100 599
  have I2 := within_tok n 100 599
  by_cases hn : 100 ≤ n ∧ n ≤ 599
  · obtain ⟨u, rfl⟩ : ∃ u : Nat, n = u := ⟨n.toNat, by omega⟩
    have hz : (⟨(Lib.itoa (u : Int)).toArray⟩ : ByteArray).size ≤ 21 := by
      show (Lib.itoa (u : Int)).toArray.size ≤ 21
      rw [List.size_toArray]
      exact Lib.itoa_length_le (u : Int) (by omega) (by omega)
    have N1 : Ev (fun k => spec_l1Num.f k (u : Int)) (⟨(Lib.itoa (u : Int)).toArray⟩ : ByteArray) := num_eq (u + 1) u (by omega) (by omega)
    have N2 : strconv_Itoa.f (u : Int) = some (⟨(Lib.itoa (u : Int)).toArray⟩ : ByteArray) := by
      unfold strconv_Itoa.f
      rw [if_pos ⟨by omega, by omega⟩]
    generalize (⟨(Lib.itoa (u : Int)).toArray⟩ : ByteArray) = Z at hz N1 N2
    have e1 : ((⟨#[72, 84, 84, 80, 47, 49, 46, 49, 32]⟩ : ByteArray) ++ Z).size = 9 + Z.size := by rw [ByteArray.size_append, ver_size]
    have e2 : (((⟨#[72, 84, 84, 80, 47, 49, 46, 49, 32]⟩ : ByteArray) ++ Z) ++ (⟨#[32]⟩ : ByteArray)).size = 9 + Z.size + 1 := by rw [ByteArray.size_append, e1, one_sp]
    have e3 : ((((⟨#[72, 84, 84, 80, 47, 49, 46, 49, 32]⟩ : ByteArray) ++ Z) ++ (⟨#[32]⟩ : ByteArray)) ++ t).size = 9 + Z.size + 1 + t.size := by rw [ByteArray.size_append, e2]
    obtain ⟨T, t0, t1, t2⟩ := head_both ((((⟨#[72, 84, 84, 80, 47, 49, 46, 49, 32]⟩ : ByteArray) ++ Z) ++ (⟨#[32]⟩ : ByteArray)) ++ t) l hl (by omega)
    obtain ⟨f, f1, f2⟩ := framed_both l hl b hb
    have L1 : Ev (fun k => spec_l4Status.f k (u : Int) t l b) ((((⟨#[72, 84, 84, 80, 47, 49, 46, 49, 32]⟩ : ByteArray) ++ Z) ++ (⟨#[32]⟩ : ByteArray)) ++ t) := by
      unfold spec_l4Status.f
      exact Ev.bind N1 (Ev.pos (by omega) (Ev.pos (by omega) (Ev.pos (by omega) (Ev.now _))))
    have L2 : impl_responseLine.f (u : Int) t l b = some ((((⟨#[72, 84, 84, 80, 47, 49, 46, 49, 32]⟩ : ByteArray) ++ Z) ++ (⟨#[32]⟩ : ByteArray)) ++ t) := by
      unfold impl_responseLine.f
      rw [N2, Option.bind_some, if_pos (by omega), if_pos (by omega), if_pos (by omega)]
    have d : (decide (100 ≤ (u : Int)) && decide ((u : Int) ≤ 599)) = true := by rw [decide_eq_true hn.1, decide_eq_true hn.2]; rfl
    rw [d] at I1 I2
    refine ⟨true && (((numsOf t).all printed && decide ((t.size : Int) ≤ 40)) && (fieldsB l && ((f && decide ((b.size : Int) ≤ 300)) && decide ((T.size : Int) ≤ 2000)))), ?_, Ev.eq (r := (decide ((t.size : Int) ≤ 40) && (numsOf t).all printed) && (fieldsB l && (decide ((b.size : Int) ≤ 300) && (decide ((T.size : Int) ≤ 2000) && f)))) ?_ ?_, fun _ => ⟨_, T, t0, L1, L2, t1, t2⟩⟩
    · unfold spec_GoodResponse.f
      refine Ev.andO I1 (Ev.andB R1 (Ev.andB (fields_spec l hl) (Ev.andB f1 ?_)))
      refine Ev.bind L1 ?_
      exact Ev.bind t1 (Ev.now _)
    · unfold impl_GoodResponse.f
      refine Ev.andO ?_ ?_
      · unfold impl_isResponseLine.f
        rw [I2, P2]
        rfl
      · refine Ev.bnd L2 ?_
        exact Ev.bind (message_impl _ l hl b T f t2 f2) (Ev.now _)
    · simp only [Bool.and_assoc, Bool.and_comm, Bool.and_left_comm, Bool.true_and]
  · have d : (decide (100 ≤ n) && decide (n ≤ 599)) = false := by
      by_cases h1 : 100 ≤ n
      · rw [decide_eq_false (show ¬ n ≤ 599 by omega), Bool.and_false]
      · rw [decide_eq_false h1, Bool.false_and]
    rw [d] at I1 I2
    refine ⟨false, ?_, ?_, fun h => (by cases h)⟩
    · unfold spec_GoodResponse.f
      exact Ev.bnd I1 (Ev.neg Bool.false_ne_true (Ev.now _))
    · unfold impl_GoodResponse.f
      refine Ev.bnd (a := false) ?_ (Ev.neg Bool.false_ne_true (Ev.now _))
      unfold impl_isResponseLine.f
      rw [I2]
      rfl
/-- The size of a response, as the laws reckon it. -/
theorem sz_response (n : Int) (t : ByteArray) (l : List LFdT) (b : ByteArray) (ht : t.size ≤ 9223372036854775807) (hl : l.length ≤ 9223372036854775807) (hg : ∀ x ∈ l, x.f0.size ≤ 9223372036854775807 ∧ x.f1.size ≤ 9223372036854775807) (hb : b.size ≤ 9223372036854775807) :
    ∃ u : Int, Ev (fun k => laws_szResponse.f k n t l b 1048576) u ∧ (¬ u < 0 → t.size ≤ 1048576 ∧ Small (l.map fdOf) ∧ b.size ≤ 1048576) := by
  unfold laws_szResponse.f
  have e1 : wrap64 (1048576 - (t.size : Int)) = 1048576 - (t.size : Int) := wrap_id (by omega) (by omega)
  rw [e1]
  by_cases g1 : 1048576 - (t.size : Int) < 0
  · exact ⟨-1, Ev.pos g1 (Ev.now _), fun h => absurd (by decide) h⟩
  obtain ⟨u, u1, u2, u3⟩ := sz_fields l hl hg (1048576 - (t.size : Int)) (by omega) (by omega)
  by_cases g3 : u < 0
  · exact ⟨-1, Ev.neg g1 (Ev.bind u1 (Ev.pos g3 (Ev.now _))), fun h => absurd (by decide) h⟩
  have e4 : wrap64 (u - (b.size : Int)) = u - (b.size : Int) := wrap_id (by omega) (by omega)
  by_cases g4 : u - (b.size : Int) < 0
  · refine ⟨-1, Ev.neg g1 (Ev.bind u1 (Ev.neg g3 ?_)), fun h => absurd (by decide) h⟩
    rw [e4]
    exact Ev.pos g4 (Ev.now _)
  · refine ⟨u - (b.size : Int), Ev.neg g1 (Ev.bind u1 (Ev.neg g3 ?_)), fun _ => ⟨by omega, u3 g3, by omega⟩⟩
    rw [e4]
    exact Ev.neg g4 (Ev.now _)
theorem to_response (n : Int) (t : ByteArray) (l : List LFdT) (b : ByteArray) (hl : l.length ≤ 1000000000) : Ev (fun k => laws_toResponse.f k n t l b) (n, t, l.map fdOf, b) := by
  unfold laws_toResponse.f
  exact Ev.bind (to_fields l hl) (Ev.now _)
theorem eq_response (n : Int) (t : ByteArray) (l : List FdT) (b : ByteArray) (hl : l.length ≤ 1000000000) : Ev (fun k => laws_eqResponse.f k n t l b n t l b) true := by
  unfold laws_eqResponse.f
  exact Ev.pos rfl (Ev.pos rfl (Ev.bind (eq_fields l hl) (Ev.pos rfl (Ev.pos rfl (Ev.now _)))))
end Go.Proofs.YtebdamodeonbeaaGreatDoor.Q

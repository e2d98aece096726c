/- Requests: the reference's and the program's judgements are one. No condition. -/
import Derived.Test.YtebdamodeonbeaaGreatDoorF1
import Derived.Test.YtebdamodeonbeaaGreatDoorF3
import Derived.Test.YtebdamodeonbeaaGreatDoorF4
import Derived.Test.YtebdamodeonbeaaGreatDoorQMsg
namespace Go.Proofs.YtebdamodeonbeaaGreatDoor.Q
set_option linter.unusedVariables false
set_option linter.unusedSimpArgs false
open Go.RowKit Go.Proofs.YtebdamodeonbeaaGreatDoor.F Go.Proofs.YtebdamodeonbeaaGreatDoorHw Go.Proofs.YtebdamodeonbeaaGreatDoorPl Go.Proofs.YtebdamodeonbeaaGreatDoorW.PrintWords
def targetB (s : ByteArray) : Bool := (numsOf s).all (fun c => decide (33 ≤ c) && decide (c ≤ 126)) && (decide (1 ≤ (s.size : Int)) && decide ((s.size : Int) ≤ 200))
theorem target_spec (s : ByteArray) (hs : s.size ≤ 9223372036854775807) : Ev (fun k => spec_l4Target.f k s) (targetB s) := by
  have h := loop_all s (fun k i => spec_l4Target.l0 k s i) (fun c => decide (33 ≤ c) && decide (c ≤ 126)) false (decide (1 ≤ (s.size : Int)) && decide ((s.size : Int) ≤ 200)) ?_ ?_ ?_ s.size 0 (by omega)
  · refine Ev.eq (g := fun k => spec_l4Target.l0 k s ((0 : Nat) : Int)) h ?_
    simp only [List.drop_zero, targetB]
    cases (numsOf s).all (fun c => decide (33 ≤ c) && decide (c ≤ 126)) <;> rfl
  · intro i hi hq k
    simp only [Bool.and_eq_true, decide_eq_true_eq] at hq
    simp only [spec_l4Target.l0]
    rw [if_pos (by omega), if_pos (by omega), if_neg (by omega), if_neg (by omega), wrap_succ hi hs]
  · intro i hi hq k
    simp only [Bool.and_eq_false_iff, decide_eq_false_iff_not] at hq
    simp only [spec_l4Target.l0]
    rw [if_pos (by omega), if_pos (by omega)]
    by_cases h1 : bt s (i : Int) < 33
    · rw [if_pos h1]
    · rw [if_neg h1, if_pos (by omega)]
  · intro k
    simp only [spec_l4Target.l0]
    rw [if_neg (by omega), in_tok]
    rfl
theorem target_impl (s : ByteArray) (hs : s.size ≤ 9223372036854775807) : impl_isTarget.f s = some (targetB s) := by
  have h : impl_areBytes_73.f s () = some ((numsOf s).all (fun c => decide (33 ≤ c) && decide (c ≤ 126))) := by
    unfold impl_areBytes_73.f
    rw [if_pos hs]
    refine allO_all (fun x _ => ?_)
    unfold impl_isTarget_1.f
    by_cases h1 : x ≥ 33
    · rw [if_pos h1, decide_eq_true (show 33 ≤ x from h1), Bool.true_and]
    · rw [if_neg h1, decide_eq_false (show ¬ 33 ≤ x from h1), Bool.false_and]
  unfold impl_isTarget.f targetB
  rw [within_tok, h]
  simp only [Option.bind_some]
  cases decide (1 ≤ (s.size : Int)) && decide ((s.size : Int) ≤ 200) with
  | true => rw [if_pos rfl]; simp
  | false => rw [if_neg (by decide)]; simp
theorem sp_size : (⟨#[32]⟩ : ByteArray).size = 1 := rfl
theorem http_size : (⟨#[32, 72, 84, 84, 80, 47, 49, 46, 49]⟩ : ByteArray).size = 9 := rfl
/-- What both tell of a request, its first line and its head. -/
theorem req_both (m t : ByteArray) (l : List FdT) (b : ByteArray) (hm : m.size ≤ 1048576) (ht : t.size ≤ 1048576) (hl : Small l) (hb : b.size ≤ 1048576) :
    ∃ (r : Bool) (line T : ByteArray), T.size ≤ 9000000000000 ∧ spec_l4First.f m t l b = some line ∧ impl_requestLine.f m t l b = some line ∧ Ev (fun k => spec_l4Head.f k line l) T ∧ Ev (fun k => impl_headText.f k line l) T ∧
      Ev (fun k => spec_GoodRequest.f k m t l b) r ∧ Ev (fun k => impl_GoodRequest.f k m t l b) r := by
  have e1 : (m ++ (⟨#[32]⟩ : ByteArray)).size = m.size + 1 := by rw [ByteArray.size_append, sp_size]
  have e2 : ((m ++ (⟨#[32]⟩ : ByteArray)) ++ t).size = m.size + 1 + t.size := by rw [ByteArray.size_append, e1]
  have e3 : (((m ++ (⟨#[32]⟩ : ByteArray)) ++ t) ++ (⟨#[32, 72, 84, 84, 80, 47, 49, 46, 49]⟩ : ByteArray)).size = m.size + 1 + t.size + 9 := by rw [ByteArray.size_append, e2, http_size]
  obtain ⟨T, t0, t1, t2⟩ := head_both (((m ++ (⟨#[32]⟩ : ByteArray)) ++ t) ++ (⟨#[32, 72, 84, 84, 80, 47, 49, 46, 49]⟩ : ByteArray)) l hl (by omega)
  obtain ⟨f, f1, f2⟩ := framed_both l hl b hb
  have L1 : spec_l4First.f m t l b = some (((m ++ (⟨#[32]⟩ : ByteArray)) ++ t) ++ (⟨#[32, 72, 84, 84, 80, 47, 49, 46, 49]⟩ : ByteArray)) := by
    unfold spec_l4First.f
    rw [if_pos (by omega), if_pos (by omega), if_pos (by omega)]
  have L2 : impl_requestLine.f m t l b = some (((m ++ (⟨#[32]⟩ : ByteArray)) ++ t) ++ (⟨#[32, 72, 84, 84, 80, 47, 49, 46, 49]⟩ : ByteArray)) := by
    unfold impl_requestLine.f
    rw [if_pos (by omega), if_pos (by omega), if_pos (by omega)]
  refine ⟨(tokenB m && decide ((m.size : Int) ≤ 10)) && (targetB t && (fieldsB l && ((f && decide ((b.size : Int) ≤ 300)) && decide ((T.size : Int) ≤ 2000)))), _, T, t0, L1, L2, t1, t2, ?_, Ev.eq (r := (tokenB m && (decide ((m.size : Int) ≤ 10) && targetB t)) && (fieldsB l && (decide ((b.size : Int) ≤ 300) && (decide ((T.size : Int) ≤ 2000) && f)))) ?_ ?_⟩
  · unfold spec_GoodRequest.f
    refine Ev.andB (a := tokenB m && decide ((m.size : Int) ≤ 10)) ?_ (Ev.andB (target_spec t (by omega)) (Ev.andB (fields_spec l hl) (Ev.andB f1 ?_)))
    · unfold spec_l4Method.f
      exact Ev.andB (token_spec m (by omega)) (Ev.now _)
    · refine Ev.bnd L1 ?_
      exact Ev.bind t1 (Ev.now _)
  · unfold impl_GoodRequest.f
    refine Ev.andO ?_ ?_
    · unfold impl_isRequestLine.f
      rw [token_impl m (by omega), target_impl t (by omega)]
      cases tokenB m <;> by_cases h : (m.size : Int) ≤ 10 <;> simp [h]
    · refine Ev.bnd L2 ?_
      exact Ev.bind (message_impl _ l hl b T f t2 f2) (Ev.now _)
  · simp only [Bool.and_assoc, Bool.and_comm, Bool.and_left_comm]
/-- The size of a request, as the laws reckon it. -/
theorem sz_request (m t : ByteArray) (l : List LFdT) (b : ByteArray) (hm : m.size ≤ 9223372036854775807) (ht : t.size ≤ 9223372036854775807) (hl : l.length ≤ 9223372036854775807) (hg : ∀ x ∈ l, x.f0.size ≤ 9223372036854775807 ∧ x.f1.size ≤ 9223372036854775807) (hb : b.size ≤ 9223372036854775807) :
    ∃ u : Int, Ev (fun k => laws_szRequest.f k m t l b 1048576) u ∧ (¬ u < 0 → m.size ≤ 1048576 ∧ t.size ≤ 1048576 ∧ Small (l.map fdOf) ∧ b.size ≤ 1048576) := by
  unfold laws_szRequest.f
  have e1 : wrap64 (1048576 - (m.size : Int)) = 1048576 - (m.size : Int) := wrap_id (by omega) (by omega)
  rw [e1]
  by_cases g1 : 1048576 - (m.size : Int) < 0
  · exact ⟨-1, Ev.pos g1 (Ev.now _), fun h => absurd (by decide) h⟩
  have e2 : wrap64 (1048576 - (m.size : Int) - (t.size : Int)) = 1048576 - (m.size : Int) - (t.size : Int) := wrap_id (by omega) (by omega)
  rw [e2]
  by_cases g2 : 1048576 - (m.size : Int) - (t.size : Int) < 0
  · exact ⟨-1, Ev.neg g1 (Ev.pos g2 (Ev.now _)), fun h => absurd (by decide) h⟩
  obtain ⟨u, u1, u2, u3⟩ := sz_fields l hl hg (1048576 - (m.size : Int) - (t.size : Int)) (by omega) (by omega)
  by_cases g3 : u < 0
  · exact ⟨-1, Ev.neg g1 (Ev.neg g2 (Ev.bind u1 (Ev.pos g3 (Ev.now _)))), fun h => absurd (by decide) h⟩
  have e4 : wrap64 (u - (b.size : Int)) = u - (b.size : Int) := wrap_id (by omega) (by omega)
  by_cases g4 : u - (b.size : Int) < 0
  · refine ⟨-1, Ev.neg g1 (Ev.neg g2 (Ev.bind u1 (Ev.neg g3 ?_))), fun h => absurd (by decide) h⟩
    rw [e4]
    exact Ev.pos g4 (Ev.now _)
  · refine ⟨u - (b.size : Int), Ev.neg g1 (Ev.neg g2 (Ev.bind u1 (Ev.neg g3 ?_))), fun _ => ⟨by omega, by omega, u3 g3, by omega⟩⟩
    rw [e4]
    exact Ev.neg g4 (Ev.now _)
theorem to_request (m t : ByteArray) (l : List LFdT) (b : ByteArray) (hl : l.length ≤ 1000000000) : Ev (fun k => laws_toRequest.f k m t l b) (m, t, l.map fdOf, b) := by
  unfold laws_toRequest.f
  exact Ev.bind (to_fields l hl) (Ev.now _)
theorem eq_request (m t : ByteArray) (l : List FdT) (b : ByteArray) (hl : l.length ≤ 1000000000) : Ev (fun k => laws_eqRequest.f k m t l b m t l b) true := by
  unfold laws_eqRequest.f
  exact Ev.pos rfl (Ev.pos rfl (Ev.bind (eq_fields l hl) (Ev.pos rfl (Ev.pos rfl (Ev.now _)))))
end Go.Proofs.YtebdamodeonbeaaGreatDoor.Q

/- Messages: targets, frames, heads: the reference's and the program's are one. No condition. -/
import Derived.Test.YtebdamodeonbeaaGreatDoorF2
import Derived.Test.YtebdamodeonbeaaGreatDoorF4
import Derived.Test.YtebdamodeonbeaaGreatDoorF3
import Derived.Test.YtebdamodeonbeaaGreatDoorQLength
import Derived.Test.YtebdamodeonbeaaGreatDoorQAnd
namespace Go.Proofs.YtebdamodeonbeaaGreatDoor.Q
set_option linter.unusedVariables false
set_option linter.unusedSimpArgs false
open Go.RowKit Go.Proofs.YtebdamodeonbeaaGreatDoor.F Go.Proofs.YtebdamodeonbeaaGreatDoorHw Go.Proofs.YtebdamodeonbeaaGreatDoorPl Go.Proofs.YtebdamodeonbeaaGreatDoorW.PrintWords
/-- Whether fields frame a body. -/
theorem framed_both (l : List FdT) (hl : Small l) (b : ByteArray) (hb : b.size ≤ 1048576) :
    ∃ f : Bool, Ev (fun k => spec_l4Framed.f k l b) (f && decide ((b.size : Int) ≤ 300)) ∧ Ev (fun k => impl_isFramed.f k l b) f := by
  obtain ⟨r, v, h, o, e, x, y⟩ := length_both l hl
  obtain ⟨v1, v2⟩ := vals_both l hl (⟨#[116, 114, 97, 110, 115, 102, 101, 114, 45, 101, 110, 99, 111, 100, 105, 110, 103]⟩ : ByteArray) (by decide)
  generalize vals l (⟨#[116, 114, 97, 110, 115, 102, 101, 114, 45, 101, 110, 99, 111, 100, 105, 110, 103]⟩ : ByteArray) = ws at v1 v2
  unfold spec_l4Framed.f impl_isFramed.f
  have V : Ev (fun k => (spec_l3Values.f k l (⟨#[116, 114, 97, 110, 115, 102, 101, 114, 45, 101, 110, 99, 111, 100, 105, 110, 103]⟩ : ByteArray)).bind fun t => some ((t.length : Int) == 0)) ((ws.length : Int) == 0) := Ev.bind v1 (Ev.now _)
  rcases e with ⟨rfl, rfl, rfl, rfl⟩ | ⟨rfl, ⟨rfl, rfl, h0⟩ | ⟨rfl, rfl, rfl⟩⟩
  · refine ⟨false, Ev.bind x (Ev.neg (by decide) (Ev.neg (by omega) (Ev.now _))), Ev.bind y (Ev.neg Bool.false_ne_true (Ev.now _))⟩
  · refine ⟨decide ((ws.length : Int) = 0) && decide (r = (b.size : Int)), ?_, ?_⟩
    · refine Ev.bind x (Ev.neg (by omega) (Ev.eq (Ev.ifB (Ev.ifB V)) ?_))
      by_cases h1 : (ws.length : Int) = 0
      · rw [h1]; simp
      · rw [decide_eq_false h1, beq_eq_false_iff_ne.2 h1]; simp
    · refine Ev.bind y (Ev.pos rfl (Ev.bind v2 ?_))
      by_cases h1 : (ws.length : Int) = 0
      · rw [decide_eq_true h1]
        refine Ev.pos h1 (Ev.pos rfl ?_)
        by_cases h2 : r = (b.size : Int)
        · rw [decide_eq_true h2]; exact Ev.pos h2 (Ev.now _)
        · rw [decide_eq_false h2]; exact Ev.neg h2 (Ev.now _)
      · rw [decide_eq_false h1]
        exact Ev.neg h1 (Ev.now _)
  · refine ⟨decide ((ws.length : Int) = 0) && decide (b.size = 0), ?_, ?_⟩
    · refine Ev.bind x (Ev.pos rfl (Ev.eq (Ev.ifB (Ev.ifB V)) ?_))
      have e2 : decide (0 = (b.size : Int)) = decide (b.size = 0) := by rw [Bool.eq_iff_iff, decide_eq_true_iff, decide_eq_true_iff]; omega
      rw [e2]
      by_cases h1 : (ws.length : Int) = 0
      · rw [h1]; simp
      · rw [decide_eq_false h1, beq_eq_false_iff_ne.2 h1]; simp
    · refine Ev.bind y (Ev.pos rfl (Ev.bind v2 ?_))
      by_cases h1 : (ws.length : Int) = 0
      · rw [decide_eq_true h1, Bool.true_and]
        refine Ev.pos h1 (Ev.neg Bool.false_ne_true (Ev.eq (Ev.now _) ?_))
        rw [Bool.eq_iff_iff, beq_iff_eq, decide_eq_true_iff]
        exact list_of_size b
      · rw [decide_eq_false h1]
        exact Ev.neg h1 (Ev.now _)
theorem crlf_size : (⟨#[13, 10]⟩ : ByteArray).size = 2 := rfl
theorem colon_size : (⟨#[58, 32]⟩ : ByteArray).size = 2 := rfl
/-- A head. -/
theorem head_both (line : ByteArray) (l : List FdT) (hl : Small l) (hs : line.size ≤ 4000000) : ∃ T : ByteArray, T.size ≤ 9000000000000 ∧ Ev (fun k => spec_l4Head.f k line l) T ∧ Ev (fun k => impl_headText.f k line l) T := by
  have hL := hl.1
  have M : ∀ (d i : Nat) (o : ByteArray), i + d = l.length → o.size ≤ 4000002 + 2097156 * i → ∃ T : ByteArray, T.size ≤ 9000000000000 ∧ Ev (fun k => spec_l4Head.l0 k o l (l.length : Int) (i : Int)) T ∧ Ev (fun k => impl_headText.l0 k o l (l.length : Int) (i : Int)) T := by
    intro d
    induction d with
    | zero =>
      intro i o hi ho
      refine ⟨o ++ (⟨#[13, 10]⟩ : ByteArray), by rw [ByteArray.size_append, crlf_size]; omega, Ev.step (fun k => rfl) ?_, Ev.step (fun k => rfl) ?_⟩
      · simp only [spec_l4Head.l0]; exact Ev.neg (by omega) (Ev.pos (by omega) (Ev.now _))
      · simp only [impl_headText.l0]; exact Ev.neg (by omega) (Ev.pos (by omega) (Ev.now _))
    | succ d ih =>
      intro i o hi ho
      have hlt : i < l.length := by omega
      obtain ⟨s1, s2⟩ := hl.at hlt
      have e1 : (l[i].f0 ++ (⟨#[58, 32]⟩ : ByteArray)).size = l[i].f0.size + 2 := by rw [ByteArray.size_append, colon_size]
      have e2 : ((l[i].f0 ++ (⟨#[58, 32]⟩ : ByteArray)) ++ l[i].f1).size = l[i].f0.size + 2 + l[i].f1.size := by rw [ByteArray.size_append, e1]
      have e3 : (((l[i].f0 ++ (⟨#[58, 32]⟩ : ByteArray)) ++ l[i].f1) ++ (⟨#[13, 10]⟩ : ByteArray)).size = l[i].f0.size + 2 + l[i].f1.size + 2 := by rw [ByteArray.size_append, e2, crlf_size]
      obtain ⟨T, t0, t1, t2⟩ := ih (i + 1) (o ++ (((l[i].f0 ++ (⟨#[58, 32]⟩ : ByteArray)) ++ l[i].f1) ++ (⟨#[13, 10]⟩ : ByteArray))) (by omega) (by rw [ByteArray.size_append, e3]; omega)
      refine ⟨T, t0, Ev.step (fun k => rfl) ?_, Ev.step (fun k => rfl) ?_⟩
      · simp only [spec_l4Head.l0]
        rw [rd_field l i hlt, wrap_succ hlt (by omega)]
        exact Ev.pos (by omega) (Ev.pos (by omega) (Ev.pos (by omega) (Ev.pos (by omega) (Ev.pos (by omega) (Ev.pos (by omega) (Ev.pos (by omega) t1))))))
      · simp only [impl_headText.l0]
        rw [rd_field l i hlt, wrap_succ hlt (by omega)]
        exact Ev.pos (by omega) (Ev.pos (by omega) (Ev.pos (by omega) (Ev.pos (by omega) (Ev.pos (by omega) (Ev.pos (by omega) (Ev.pos (by omega) t2))))))
  obtain ⟨T, t0, t1, t2⟩ := M l.length 0 (line ++ (⟨#[13, 10]⟩ : ByteArray)) (by omega) (by rw [ByteArray.size_append, crlf_size]; omega)
  unfold spec_l4Head.f impl_headText.f
  exact ⟨T, t0, Ev.pos (by omega) t1, Ev.pos (by omega) t2⟩
/-- What the program tells of fields and a body behind a line. -/
theorem message_impl (line : ByteArray) (l : List FdT) (hl : Small l) (b T : ByteArray) (f : Bool) (hT : Ev (fun k => impl_headText.f k line l) T) (hf : Ev (fun k => impl_isFramed.f k l b) f) :
    Ev (fun k => impl_isMessage.f k line l b) (fieldsB l && (decide ((b.size : Int) ≤ 300) && (decide ((T.size : Int) ≤ 2000) && f))) := by
  unfold impl_isMessage.f
  refine Ev.andO (fields_impl l hl) (Ev.ifB (Ev.bind hT (Ev.ifB ?_)))
  exact Ev.bind hf (Ev.now _)
end Go.Proofs.YtebdamodeonbeaaGreatDoor.Q

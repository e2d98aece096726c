/- The pure statement of FnExactRangeText: spans are written alike. No condition. -/
import Derived.Test.YtoepojgolefgkaaDoorF2
import Derived.Test.YtoepojgolefgkaaDoorQSpans
import Derived.Test.YtoepojgolefgkaaDoorQItoa
import Derived.Test.YtoepojgolefgkaaDoorQJoin
namespace Go.Proofs.YtoepojgolefgkaaDoor.Pure
set_option linter.unusedVariables false
set_option linter.unusedSimpArgs false
open Go.RowKit Go.Proofs.YtoepojgolefgkaaDoor.F Go.Proofs.YtoepojgolefgkaaDoor.Q Go.Proofs.YtoepojgolefgkaaDoorHw Go.Proofs.YtoepojgolefgkaaDoorPl Go.Proofs.YtoepojgolefgkaaDoorW.PrintWords
theorem it_size (n : Nat) (hn : n ≤ 9223372036854775807) : (⟨(Lib.itoa (n : Int)).toArray⟩ : ByteArray).size ≤ 21 := by
  show (Lib.itoa (n : Int)).toArray.size ≤ 21
  rw [List.size_toArray]
  exact Lib.itoa_length_le _ (by omega) (by omega)
theorem z45 : (⟨#[45]⟩ : ByteArray).size = 1 := rfl
theorem z44 : (⟨#[44]⟩ : ByteArray).size = 1 := rfl
theorem zb6 : (⟨#[98, 121, 116, 101, 115, 61]⟩ : ByteArray).size = 6 := rfl
theorem span_text (x : Sp) (hx : spanB x = true) : ∃ t : ByteArray, t.size ≤ 43 ∧ Ev (fun k => spec_l6Text.f k x.f0 x.f1) t ∧ impl_spanText.f x.f0 x.f1 = some t := by
  unfold spanB at hx
  simp only [Bool.and_eq_true, decide_eq_true_eq] at hx
  obtain ⟨h1, h2, h3⟩ := hx
  obtain ⟨a, ha⟩ : ∃ a : Nat, x.f0 = a := ⟨x.f0.toNat, by omega⟩
  obtain ⟨b, hb⟩ : ∃ b : Nat, x.f1 - 1 = b := ⟨(x.f1 - 1).toNat, by omega⟩
  have hw : wrap64 (x.f1 - 1) = (b : Int) := by rw [hb, wrap_id (by omega) (by omega)]
  have ea := num_eq (a + 1) a (by omega) (by omega)
  have eb := num_eq (b + 1) b (by omega) (by omega)
  have ia : strconv_Itoa.f (a : Int) = some (⟨(Lib.itoa (a : Int)).toArray⟩ : ByteArray) := by unfold strconv_Itoa.f; exact if_pos ⟨by omega, by omega⟩
  have ib : strconv_Itoa.f (b : Int) = some (⟨(Lib.itoa (b : Int)).toArray⟩ : ByteArray) := by unfold strconv_Itoa.f; exact if_pos ⟨by omega, by omega⟩
  have sa := it_size a (by omega)
  have sb := it_size b (by omega)
  unfold spec_l6Text.f impl_spanText.f
  rw [hw, ha]
  generalize (⟨(Lib.itoa (a : Int)).toArray⟩ : ByteArray) = A at ea ia sa
  generalize (⟨(Lib.itoa (b : Int)).toArray⟩ : ByteArray) = B at eb ib sb
  refine ⟨(A ++ (⟨#[45]⟩ : ByteArray)) ++ B, ?_, Ev.bind ea (Ev.pos (by omega) (Ev.bind eb (Ev.pos ?_ (Ev.now _)))), Option.bind_eq_some_iff.2 ⟨A, ia, (if_pos (by omega)).trans (Option.bind_eq_some_iff.2 ⟨B, ib, if_pos ?_⟩)⟩⟩
  all_goals simp only [ByteArray.size_append, z45]
  all_goals omega
theorem text_loop (l : List Sp) (hl : l.length ≤ 12) (h1 : l.all spanB = true) : ∀ (d i : Nat) (ws : List ByteArray), i + d = l.length → ws.length = i → 1 ≤ i → (joined ws [44]).length ≤ 44 * i →
    ∃ r : ByteArray, Ev (fun k => spec_RangeText.l0 k ((⟨#[98, 121, 116, 101, 115, 61]⟩ : ByteArray) ++ txt (joined ws [44])) l (l.length : Int) (i : Int)) (r, true) ∧ Ev (fun k => impl_RangeText.l0 k ws l (l.length : Int) (i : Int)) (r, true) := by
  intro d
  induction d with
  | zero =>
    intro i ws hi hw h0 hz
    have hjs : (txt (joined ws [44])).size = (joined ws [44]).length := txt_size _
    have hj : strings_Join.f ws (⟨#[44]⟩ : ByteArray) = some (txt (joined ws [44])) := by
      unfold strings_Join.f
      exact if_pos ⟨by omega, by show (joined ws [44]).length ≤ _; omega⟩
    refine ⟨(⟨#[98, 121, 116, 101, 115, 61]⟩ : ByteArray) ++ txt (joined ws [44]), Ev.step (fun k => rfl) ?_, Ev.step (fun k => rfl) ?_⟩
    · simp only [spec_RangeText.l0]; exact Ev.neg (by omega) (Ev.now _)
    · simp only [impl_RangeText.l0]
      exact Ev.neg (by omega) (Ev.bnd hj (Ev.pos (by omega) (Ev.now _)))
  | succ d ih =>
    intro i ws hi hw h0 hz
    have hlt : i < l.length := by omega
    obtain ⟨t, tz, t1, t2⟩ := span_text l[i] (List.all_eq_true.1 h1 l[i] (List.getElem_mem hlt))
    have hne : ws ≠ [] := fun e => by rw [e] at hw; have : ([] : List ByteArray).length = 0 := rfl; omega
    have hsn := joined_snoc ws t [44] hne
    have htl : t.data.toList.length = t.size := Array.length_toList
    have hlen : (joined (ws ++ [t]) [44]).length = (joined ws [44]).length + 1 + t.size := by
      rw [hsn, List.length_append, List.length_append, htl]
      have : ([44] : List UInt8).length = 1 := rfl
      omega
    obtain ⟨r, r1, r2⟩ := ih (i + 1) (ws ++ [t]) (by omega) (by simp [hw]) (by omega) (by omega)
    have e := txt_joined_snoc ws t (⟨#[44]⟩ : ByteArray) hne
    have e2 : (((⟨#[98, 121, 116, 101, 115, 61]⟩ : ByteArray) ++ txt (joined ws [44])) ++ (⟨#[44]⟩ : ByteArray)) ++ t = (⟨#[98, 121, 116, 101, 115, 61]⟩ : ByteArray) ++ txt (joined (ws ++ [t]) [44]) := by
      have e' : txt (joined (ws ++ [t]) [44]) = txt (joined ws [44]) ++ ((⟨#[44]⟩ : ByteArray) ++ t) := e
      rw [e', ByteArray.append_assoc, ByteArray.append_assoc]
    have hjs : (txt (joined ws [44])).size = (joined ws [44]).length := txt_size _
    refine ⟨r, Ev.step (fun k => rfl) ?_, Ev.step (fun k => rfl) ?_⟩
    · simp only [spec_RangeText.l0]
      rw [rd_span l i hlt, wrap_succ hlt (by omega)]
      refine Ev.pos (by omega) (Ev.pos (by omega) (Ev.pos (by omega) (Ev.pos (by omega) (Ev.pos ?_ (Ev.bind t1 (Ev.pos ?_ ?_))))))
      · rw [ByteArray.size_append, zb6]; omega
      · rw [ByteArray.size_append, ByteArray.size_append, zb6, z44]; omega
      · rw [e2]; exact r1
    · simp only [impl_RangeText.l0]
      rw [rd_span l i hlt, wrap_succ hlt (by omega)]
      exact Ev.pos (by omega) (Ev.pos (by omega) (Ev.pos (by omega) (Ev.bnd t2 (Ev.pos (by omega) r2))))
theorem range_eq (l : List Sp) (hl : l.length ≤ 1000000000) : ∃ (r : ByteArray) (o : Bool), Ev (fun k => spec_RangeText.f k l) (r, o) ∧ Ev (fun k => impl_RangeText.f k l) (r, o) := by
  have s0 : Ev (fun k => spec_RangeText.j0 k l true) ((⟨#[]⟩ : ByteArray), false) := by
    refine Ev.step (fun k => rfl) ?_
    simp only [spec_RangeText.j0]
    exact Ev.pos (by trivial) (Ev.now _)
  have i0 : Ev (fun k => impl_RangeText.j0 k l true) ((⟨#[]⟩ : ByteArray), false) := by
    refine Ev.step (fun k => rfl) ?_
    simp only [impl_RangeText.j0]
    exact Ev.pos (by trivial) (Ev.now _)
  have w1 := spans_spec l hl
  have w2 := spans_impl l hl
  unfold spec_RangeText.f impl_RangeText.f
  cases hw : (l.all spanB && decide (l.length ≤ 12)) with
  | false =>
    rw [hw] at w1 w2
    exact ⟨_, _, Ev.bind w1 (Ev.neg (by decide) s0), Ev.bnd w2 (Ev.neg (by decide) i0)⟩
  | true =>
    rw [hw] at w1 w2
    simp only [Bool.and_eq_true, decide_eq_true_eq] at hw
    by_cases h0 : l.length = 0
    · rw [show ((l.length : Int) == 0) = true from beq_iff_eq.mpr (by omega)]
      exact ⟨_, _, Ev.bind w1 (Ev.pos rfl s0), Ev.bnd w2 (Ev.pos rfl i0)⟩
    · rw [show ((l.length : Int) == 0) = false from beq_eq_false_iff_ne.mpr (by omega)]
      have hlt : 0 < l.length := by omega
      obtain ⟨t, tz, t1, t2⟩ := span_text l[0] (List.all_eq_true.1 hw.1 l[0] (List.getElem_mem hlt))
      have htl : t.data.toList.length = t.size := Array.length_toList
      have hj1 := joined_one t [44]
      obtain ⟨r, r1, r2⟩ := text_loop l hw.2 hw.1 (l.length - 1) 1 [t] (by omega) rfl (Nat.le_refl _) (by rw [hj1, htl]; omega)
      rw [hj1, txt_data] at r1
      have e0 := wrap_succ (i := 0) (n := l.length) hlt (by omega)
      have rd0 := rd_span l 0 hlt
      refine ⟨r, true, Ev.bind w1 (Ev.pos rfl (Ev.step (fun k => rfl) ?_)), Ev.bnd w2 (Ev.pos rfl (Ev.step (fun k => rfl) ?_))⟩
      · simp only [spec_RangeText.j0]
        refine Ev.neg (by decide) (Ev.step (fun k => rfl) ?_)
        simp only [spec_RangeText.l0]
        refine Ev.pos (by omega) (Ev.pos (by omega) (Ev.pos (by omega) (Ev.neg (by omega) ?_)))
        have rd0' : rd_T43 l 0 = l[0] := rd0
        rw [rd0', show wrap64 ((0 : Int) + 1) = ((1 : Nat) : Int) from e0]
        exact Ev.bind t1 (Ev.pos (by rw [zb6]; omega) r1)
      · simp only [impl_RangeText.j0]
        refine Ev.neg (by decide) (Ev.step (fun k => rfl) ?_)
        simp only [impl_RangeText.l0]
        have rd0' : rd_T43 l 0 = l[0] := rd0
        rw [rd0', show wrap64 ((0 : Int) + 1) = ((1 : Nat) : Int) from e0]
        refine Ev.pos (by omega) (Ev.pos (by omega) (Ev.pos (by omega) (Ev.bnd t2 (Ev.pos ?_ r2))))
        show (0 : Nat) < _; omega
theorem FnExactRangeText : laws_FnExactRangeText.Pure := by
  intro l hl hg
  apply Ev.rounds
  unfold laws_FnExactRangeText.f
  obtain ⟨t, et, ht⟩ := sz_spans l hl
  refine Ev.bnd et ?_
  by_cases h1 : t < 0
  · exact Ev.pos h1 (Ev.now _)
  have hl6 := ht h1
  have hml : (l.map spOf).length = l.length := List.length_map ..
  have T := to_spans l (by omega)
  obtain ⟨g, o, g1, g2⟩ := range_eq (l.map spOf) (by omega)
  have EX := eq_spans (l.map spOf) (by omega)
  refine Ev.neg h1 (Ev.bind T (Ev.bind g1 (Ev.bind T (Ev.bind g2 (Ev.pos rfl ?_)))))
  rw [show (o != o) = false by simp]
  refine Ev.step (fun k => rfl) ?_
  simp only [laws_FnExactRangeText.j0]
  exact Ev.neg (by decide) (Ev.bind T (Ev.bind EX (Ev.pos rfl (Ev.now _))))
end Go.Proofs.YtoepojgolefgkaaDoor.Pure

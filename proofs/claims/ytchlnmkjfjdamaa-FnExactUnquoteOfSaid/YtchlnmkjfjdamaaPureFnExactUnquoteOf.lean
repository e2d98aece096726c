/- The pure statement of FnExactUnquoteOf: a text within marks is read alike. No condition. -/
import Derived.Test.YtchlnmkjfjdamaaF1
import Derived.Test.YtchlnmkjfjdamaaQPrinted
namespace Go.Proofs.Ytchlnmkjfjdamaa.Pure
set_option linter.unusedVariables false
set_option linter.unusedSimpArgs false
open Go.RowKit Go.Proofs.Ytchlnmkjfjdamaa.F Go.Proofs.Ytchlnmkjfjdamaa.Q Go.Proofs.YtchlnmkjfjdamaaHw Go.Proofs.YtchlnmkjfjdamaaPl Go.Proofs.YtchlnmkjfjdamaaW.PrintWords
theorem nums_str {x : List Int} (h : ∀ y ∈ x, 0 ≤ y ∧ y ≤ 255) : numsOf (strOfNums x) = x := by
  unfold numsOf strOfNums
  simp only [List.map_map]
  conv => rhs; rw [← List.map_id x]
  apply List.map_congr_left
  intro y hy
  obtain ⟨h0, h1⟩ := h y hy
  simp only [Function.comp, id]
  obtain ⟨n, rfl⟩ : ∃ n : Nat, y = (n : Int) := ⟨y.toNat, by omega⟩
  simp
  omega
def specR : Option (List Int) → ByteArray × Bool
  | none => ((⟨#[]⟩ : ByteArray), false)
  | some x => if (x.length : Int) > 100 then ((⟨#[]⟩ : ByteArray), false) else (strOfNums x, true)
def implR : Option (List Int) → ByteArray × Bool
  | none => ((⟨#[]⟩ : ByteArray), false)
  | some x => if (decide ((x.length : Int) ≤ 100) && x.all printed) = true then (strOfNums x, true) else ((⟨#[]⟩ : ByteArray), false)
set_option maxHeartbeats 2000000 in
theorem unq_loop (s t : ByteArray) (n : Nat) (hn : s.size = n) (h2 : 2 ≤ n) (hs : n ≤ 1048576) (ht : t = s.extract 1 (n - 1)) : ∀ (d j : Nat) (out : List Int), n - 2 ≤ j + d → j ≤ n - 2 → out.length ≤ j → (∀ y ∈ out, 0 ≤ y ∧ y ≤ 255) →
    ∃ o : Option (List Int), (∀ x, o = some x → x.all printed = (out.all printed && ((numsOf t).drop j).all printed)) ∧
      Ev (fun k => spec_UnquoteOf.l0 k s (n : Int) out ((j + 1 : Nat) : Int)) (specR o) ∧ Ev (fun k => impl_UnquoteOf.l0 k out t (j : Int)) (implR o) := by
  have hm : t.size = n - 2 := by rw [ht, extract_size s _ _ (by omega)]; omega
  have HW : Aside0 (wrap64 ((n : Int) - 1) = ((n - 1 : Nat) : Int)) := ⟨by rw [wrap_id (by omega) (by omega)]; omega⟩
  have B : ∀ j, j < n - 2 → bt s ((j + 1 : Nat) : Int) = bt t (j : Int) := fun j hj => by
    rw [ht, bt_extract s 1 (n - 1) j (by omega), Nat.add_comm]
  have E : ∀ (j : Nat) (out : List Int), j = n - 2 → out.length ≤ j → (∀ y ∈ out, 0 ≤ y ∧ y ≤ 255) →
      ∃ o : Option (List Int), (∀ x, o = some x → x.all printed = (out.all printed && ((numsOf t).drop j).all printed)) ∧
      Ev (fun k => spec_UnquoteOf.l0 k s (n : Int) out ((j + 1 : Nat) : Int)) (specR o) ∧ Ev (fun k => impl_UnquoteOf.l0 k out t (j : Int)) (implR o) := by
    intro j out hj hl hb
    refine ⟨some out, fun x hx => ?_, Ev.step (fun k => rfl) ?_, Ev.step (fun k => rfl) ?_⟩
    · injection hx with hx
      subst hx
      rw [List.drop_eq_nil_of_le (by rw [numsOf_length]; omega)]
      simp
    · simp only [spec_UnquoteOf.l0, specR]
      rw [HW.out]
      refine Ev.neg (by omega) ?_
      by_cases c : (out.length : Int) > 100
      · exact Ev.pos c (Ev.eq (Ev.now _) (if_pos c).symm)
      · exact Ev.neg c (Ev.eq (Ev.now _) (if_neg c).symm)
    · simp only [impl_UnquoteOf.l0, implR]
      refine Ev.neg (by omega) (Ev.bnd (printed_impl (strOfNums out) (by rw [strOfNums_size]; omega) 100) ?_)
      rw [nums_str hb, strOfNums_size]
      cases (decide ((out.length : Int) ≤ 100) && out.all printed) with
      | true => exact Ev.pos rfl (Ev.now _)
      | false => exact Ev.neg (by decide) (Ev.now _)
  intro d
  induction d with
  | zero =>
    intro j out hj hj2 hl hb
    exact E j out (by omega) hl hb
  | succ d ih =>
    intro j out hj hj2 hl hb
    by_cases hlt : j < n - 2
    · have W1 : Aside0 (wrap64 (((j + 1 : Nat) : Int) + 1) = ((j + 1 + 1 : Nat) : Int)) := ⟨wrap_succ (i := j + 1) (n := n) (by omega) (by omega)⟩
      have W2 : Aside0 (wrap64 ((j : Int) + 1) = ((j + 1 : Nat) : Int)) := ⟨wrap_succ (i := j) (n := n) (by omega) (by omega)⟩
      have w3 : j + 1 < n - 2 → wrap64 (((j + 1 + 1 : Nat) : Int) + 1) = ((j + 2 + 1 : Nat) : Int) := fun h => wrap_succ (i := j + 1 + 1) (n := n) (by omega) (by omega)
      have HD : Aside0 ((numsOf t).drop j = bt t (j : Int) :: (numsOf t).drop (j + 1)) := ⟨numsOf_drop t j (by omega)⟩
      have e1 := Aside0.mk (B j hlt)
      by_cases c1 : bt t (j : Int) = 34
      · replace c1 := Aside0.mk c1
        refine ⟨none, fun x hx => (by cases hx), Ev.step (fun k => rfl) ?_, Ev.step (fun k => rfl) ?_⟩
        · simp only [spec_UnquoteOf.l0]
          rw [HW.out, e1.out]
          exact Ev.pos (by omega) (Ev.pos (by omega) (Ev.pos (by omega) (Ev.pos c1.out (Ev.now _))))
        · simp only [impl_UnquoteOf.l0]
          exact Ev.pos (by omega) (Ev.pos (by omega) (Ev.pos c1.out (Ev.now _)))
      · replace c1 := Aside0.mk c1
        by_cases c2 : bt t (j : Int) = 92
        · replace c2 := Aside0.mk c2
          by_cases c3 : j + 1 = n - 2
          · refine ⟨none, fun x hx => (by cases hx), Ev.step (fun k => rfl) ?_, Ev.step (fun k => rfl) ?_⟩
            · simp only [spec_UnquoteOf.l0]
              rw [HW.out, e1.out, W1.out]
              exact Ev.pos (by omega) (Ev.pos (by omega) (Ev.pos (by omega) (Ev.neg c1.out (Ev.pos c2.out (Ev.pos (by omega) (Ev.now _))))))
            · simp only [impl_UnquoteOf.l0]
              rw [W2.out]
              exact Ev.pos (by omega) (Ev.pos (by omega) (Ev.neg c1.out (Ev.pos c2.out (Ev.pos (by omega) (Ev.now _)))))
          · have e2 := Aside0.mk (B (j + 1) (by omega))
            have HD2 : Aside0 ((numsOf t).drop (j + 1) = bt t ((j + 1 : Nat) : Int) :: (numsOf t).drop (j + 1 + 1)) := ⟨numsOf_drop t (j + 1) (by omega)⟩
            have hr := Aside0.mk (bt_range t ((j + 1 : Nat) : Int))
            obtain ⟨o, o1, o2, o3⟩ := ih (j + 2) (out ++ [bt t ((j + 1 : Nat) : Int)]) (by omega) (by omega) (by simp; omega) (fun y hy => by
              rcases List.mem_append.1 hy with hy | hy
              · exact hb y hy
              · rw [List.mem_singleton.1 hy]; exact hr.out)
            refine ⟨o, fun x hx => ?_, Ev.step (fun k => rfl) ?_, Ev.step (fun k => rfl) ?_⟩
            · rw [o1 x hx, HD.out, HD2.out, c2.out, List.all_append, List.all_cons, List.all_cons, List.all_cons, List.all_nil, Bool.and_true, show printed 92 = true by rfl, Bool.true_and, Bool.and_assoc]
            · simp only [spec_UnquoteOf.l0]
              rw [HW.out, e1.out, W1.out, e2.out, w3 (by omega)]
              exact Ev.pos (by omega) (Ev.pos (by omega) (Ev.pos (by omega) (Ev.neg c1.out (Ev.pos c2.out (Ev.neg (by omega) (Ev.pos (by omega) (Ev.pos (by omega) (Ev.pos (by omega) o2))))))))
            · simp only [impl_UnquoteOf.l0]
              rw [W2.out, W1.out]
              exact Ev.pos (by omega) (Ev.pos (by omega) (Ev.neg c1.out (Ev.pos c2.out (Ev.neg (by omega) (Ev.pos (by omega) (Ev.pos (by omega) (Ev.pos (by omega) o3)))))))
        · replace c2 := Aside0.mk c2
          have hr := Aside0.mk (bt_range t (j : Int))
          obtain ⟨o, o1, o2, o3⟩ := ih (j + 1) (out ++ [bt t (j : Int)]) (by omega) (by omega) (by simp; omega) (fun y hy => by
              rcases List.mem_append.1 hy with hy | hy
              · exact hb y hy
              · rw [List.mem_singleton.1 hy]; exact hr.out)
          refine ⟨o, fun x hx => ?_, Ev.step (fun k => rfl) ?_, Ev.step (fun k => rfl) ?_⟩
          · rw [o1 x hx, HD.out, List.all_append, List.all_cons, List.all_cons, List.all_nil, Bool.and_true, Bool.and_assoc]
          · simp only [spec_UnquoteOf.l0]
            rw [HW.out, e1.out, W1.out]
            exact Ev.pos (by omega) (Ev.pos (by omega) (Ev.pos (by omega) (Ev.neg c1.out (Ev.neg c2.out (Ev.pos (by omega) o2)))))
          · simp only [impl_UnquoteOf.l0]
            rw [W2.out]
            exact Ev.pos (by omega) (Ev.pos (by omega) (Ev.neg c1.out (Ev.neg c2.out (Ev.pos (by omega) o3))))
    · exact E j out (by omega) hl hb
theorem unq_eq (s : ByteArray) (hs : s.size ≤ 1048576) : ∃ r : ByteArray × Bool, Ev (fun k => spec_UnquoteOf.f k s) r ∧ Ev (fun k => impl_UnquoteOf.f k s) r := by
  have s0 : Ev (fun k => spec_UnquoteOf.j0 k s (s.size : Int) true) ((⟨#[]⟩ : ByteArray), false) := by
    refine Ev.step (fun k => rfl) ?_
    simp only [spec_UnquoteOf.j0]
    exact Ev.pos (by trivial) (Ev.now _)
  have i0 : Ev (fun k => impl_UnquoteOf.j0 k s true) ((⟨#[]⟩ : ByteArray), false) := by
    refine Ev.step (fun k => rfl) ?_
    simp only [impl_UnquoteOf.j0]
    exact Ev.pos (by trivial) (Ev.now _)
  unfold spec_UnquoteOf.f impl_UnquoteOf.f
  by_cases h2 : (s.size : Int) < 2
  · exact ⟨_, Ev.pos h2 s0, Ev.pos h2 i0⟩
  have hw : wrap64 ((s.size : Int) - 1) = ((s.size - 1 : Nat) : Int) := by rw [wrap_id (by omega) (by omega)]; omega
  rw [hw]
  by_cases c0 : bt s 0 = 34
  · by_cases c1 : bt s ((s.size - 1 : Nat) : Int) = 34
    · have hp := printed_spec s (by omega)
      have e1 : (bt s ((s.size - 1 : Nat) : Int) != 34) = false := by rw [c1]; rfl
      obtain ⟨o, o1, o2, o3⟩ := unq_loop s (s.extract 1 (s.size - 1)) s.size rfl (by omega) hs rfl s.size 0 [] (by omega) (by omega) (Nat.le_refl _) (fun y hy => by cases hy)
      have hP : (numsOf s).all printed = (numsOf (s.extract 1 (s.size - 1))).all printed := by
        have a1 : numsOf s = bt s ((0 : Nat) : Int) :: (numsOf s).drop 1 := by
          have := numsOf_drop s 0 (by omega)
          rwa [List.drop_zero] at this
        have a2 : (numsOf s).drop 1 = numsOf (s.extract 1 (s.size - 1)) ++ [bt s ((s.size - 1 : Nat) : Int)] := by
          have e := (List.take_append_drop (s.size - 1 - 1) ((numsOf s).drop 1)).symm
          rw [List.drop_drop, show 1 + (s.size - 1 - 1) = s.size - 1 by omega, numsOf_drop s (s.size - 1) (by omega), show (numsOf s).drop (s.size - 1 + 1) = [] from List.drop_eq_nil_of_le (by rw [numsOf_length]; omega), ← numsOf_extract] at e
          exact e
        rw [a1, a2, List.all_cons, List.all_append, List.all_cons, List.all_nil, c1, show bt s ((0 : Nat) : Int) = 34 from c0, show printed 34 = true by rfl]
        simp
      rw [List.drop_zero] at o1
      simp only [List.all_nil, Bool.true_and] at o1
      have hsp : ∀ b, ((numsOf s).all printed) = b → Ev (fun k => spec_UnquoteOf.j0 k s (s.size : Int) (!b)) (implR o) := fun b hb => by
        refine Ev.step (fun k => rfl) ?_
        simp only [spec_UnquoteOf.j0]
        cases b with
        | false =>
          refine Ev.pos (by rfl) ?_
          cases o with
          | none => exact Ev.now _
          | some x =>
            have := o1 x rfl
            rw [← hP, hb] at this
            simp only [implR, this, Bool.and_false]
            exact Ev.now _
        | true =>
          refine Ev.neg (by decide) ?_
          refine Ev.eq o2 ?_
          cases o with
          | none => rfl
          | some x =>
            have := o1 x rfl
            rw [← hP, hb] at this
            simp only [specR, implR, this, Bool.and_true]
            by_cases c : (x.length : Int) > 100
            · rw [if_pos c, if_neg (by rw [decide_eq_true_iff]; omega)]
            · rw [if_neg c, if_pos (by rw [decide_eq_true_iff]; omega)]
      refine ⟨implR o, Ev.neg h2 (Ev.pos (by omega) (Ev.pos c0 (Ev.pos (by omega) (Ev.pos (by omega) (Ev.pos c1 (Ev.bind hp (hsp _ rfl))))))), Ev.neg h2 (Ev.pos (by omega) (Ev.pos c0 (Ev.pos (by omega) (Ev.pos (by omega) ?_))))⟩
      rw [e1]
      refine Ev.step (fun k => rfl) ?_
      simp only [impl_UnquoteOf.j0]
      rw [hw, Int.toNat_natCast]
      exact Ev.neg (by decide) (Ev.pos (by omega) (Ev.pos (by omega) o3))
    · have e1 : (bt s ((s.size - 1 : Nat) : Int) != 34) = true := bne_iff_ne.2 c1
      refine ⟨_, Ev.neg h2 (Ev.pos (by omega) (Ev.pos c0 (Ev.pos (by omega) (Ev.pos (by omega) (Ev.neg c1 s0))))), Ev.neg h2 (Ev.pos (by omega) (Ev.pos c0 (Ev.pos (by omega) (Ev.pos (by omega) ?_))))⟩
      rw [e1]
      exact i0
  · exact ⟨_, Ev.neg h2 (Ev.pos (by omega) (Ev.neg c0 s0)), Ev.neg h2 (Ev.pos (by omega) (Ev.neg c0 i0))⟩
theorem FnExactUnquoteOf : laws_FnExactUnquoteOf.Pure := by
  intro s hs
  apply Ev.rounds
  unfold laws_FnExactUnquoteOf.f
  by_cases h0 : (s.size : Int) > 1048576
  · exact Ev.pos h0 (Ev.now _)
  obtain ⟨r, r1, r2⟩ := unq_eq s (by omega)
  refine Ev.neg h0 (Ev.bind r1 (Ev.bind r2 (Ev.pos rfl ?_)))
  exact Ev.neg (by simp) (Ev.now _)
end Go.Proofs.Ytchlnmkjfjdamaa.Pure

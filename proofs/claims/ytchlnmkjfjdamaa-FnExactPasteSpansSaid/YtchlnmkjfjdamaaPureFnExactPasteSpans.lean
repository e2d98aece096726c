/- The pure statement of FnExactPasteSpans: parts are pasted alike. No condition. -/
import Derived.Test.YtchlnmkjfjdamaaF2
import Derived.Test.YtchlnmkjfjdamaaQSpanW
import Derived.Test.YtchlnmkjfjdamaaQStrs
namespace Go.Proofs.Ytchlnmkjfjdamaa.Pure
set_option linter.unusedVariables false
set_option linter.unusedSimpArgs false
open Go.RowKit Go.Proofs.Ytchlnmkjfjdamaa.F Go.Proofs.Ytchlnmkjfjdamaa.Q Go.Proofs.YtchlnmkjfjdamaaHw Go.Proofs.YtchlnmkjfjdamaaPl Go.Proofs.YtchlnmkjfjdamaaW.PrintWords
theorem ext_getD {a b : List Int} (h : a.length = b.length) (hh : ∀ j, j < a.length → a.getD j 0 = b.getD j 0) : a = b := by
  refine List.ext_getElem h fun j h1 h2 => ?_
  have := hh j h1
  rwa [List.getD_eq_getElem?_getD, List.getD_eq_getElem?_getD, List.getElem?_eq_getElem h1, List.getElem?_eq_getElem h2] at this
theorem putB_zero (cs ns : List Int) (o : Nat) : putB cs o (ns.take 0) = cs := by
  unfold putB
  simp
theorem getD_take (ns : List Int) (i j : Nat) (h : i < j) : (ns.take j).getD i 0 = ns.getD i 0 := by
  rw [List.getD_eq_getElem?_getD, List.getD_eq_getElem?_getD, List.getElem?_take, if_pos h]
theorem getD_set (ns : List Int) (i j : Nat) (v : Int) (h : j < ns.length) : (ns.set i v).getD j 0 = if i = j then v else ns.getD j 0 := by
  rw [List.getD_eq_getElem?_getD, List.getD_eq_getElem?_getD]
  by_cases e : i = j
  · subst e; rw [List.getElem?_set_self h, if_pos rfl]; rfl
  · rw [List.getElem?_set_ne e, if_neg e]
theorem putB_step (cs ns : List Int) (o j : Nat) (hj : j < ns.length) (h : o + ns.length ≤ cs.length) : (putB cs o (ns.take j)).set (o + j) (ns.getD j 0) = putB cs o (ns.take (j + 1)) := by
  have h1 : (ns.take j).length = j := by rw [List.length_take]; omega
  have h2 : (ns.take (j + 1)).length = j + 1 := by rw [List.length_take]; omega
  have l1 : (putB cs o (ns.take j)).length = cs.length := putB_length (by omega)
  have l2 : (putB cs o (ns.take (j + 1))).length = cs.length := putB_length (by omega)
  refine ext_getD (by rw [List.length_set, l1, l2]) fun i hi => ?_
  rw [List.length_set, l1] at hi
  rw [getD_set _ _ _ _ (by rw [l1]; exact hi), putB_get (by omega), putB_get (by omega), h1, h2]
  by_cases e : o + j = i
  · subst e
    rw [if_pos rfl, if_pos (by omega), getD_take _ _ _ (by omega), Nat.add_sub_cancel_left]
  · rw [if_neg e]
    by_cases c : o ≤ i ∧ i < o + j
    · rw [if_pos c, if_pos (by omega), getD_take _ _ _ (by omega), getD_take _ _ _ (by omega)]
    · rw [if_neg c, if_neg (by omega)]
theorem paste_inner (l : List Sp) (ps : List ByteArray) (i : Nat) (r : ByteArray × Bool) (hi : i < l.length) (hp : i < ps.length) (cs : List Int) (a b : Int) (o : Nat) (ha : a = (o : Int)) (hl : l.length ≤ 1000000) (ho : o + ps[i].size ≤ cs.length) (hc : cs.length ≤ 300)
    (h : Ev (fun k => spec_PasteSpans.l1 k ps (putB cs o (numsOf ps[i])) l (l.length : Int) ((i + 1 : Nat) : Int)) r) :
    ∀ (d j : Nat), j + d = ps[i].size → Ev (fun k => spec_PasteSpans.l2 k ps (putB cs o ((numsOf ps[i]).take j)) (i : Int) (j : Int) l (l.length : Int) (i : Int) a b) r := by
  subst ha
  have hn : (numsOf ps[i]).length = ps[i].size := numsOf_length _
  intro d
  induction d with
  | zero =>
    intro j hj
    refine Ev.step (fun k => rfl) ?_
    simp only [spec_PasteSpans.l2]
    rw [rdOf_get ps i hp, wrap_succ hi (by omega), List.take_of_length_le (by omega)]
    exact Ev.pos (by omega) (Ev.pos (by omega) (Ev.neg (by omega) h))
  | succ d ih =>
    intro j hj
    have z := ih (j + 1) (by omega)
    refine Ev.step (fun k => rfl) ?_
    simp only [spec_PasteSpans.l2]
    have hlen : (putB cs o ((numsOf ps[i]).take j)).length = cs.length := putB_length (by rw [List.length_take]; omega)
    rw [rdOf_get ps i hp, wrap_succ (i := j) (n := ps[i].size) (by omega) (by omega), wrap_add (i := o) (n := j) (by omega), Int.toNat_natCast, ← numsOf_getD', putB_step _ _ _ _ (by omega) (by omega)]
    exact Ev.pos (by omega) (Ev.pos (by omega) (Ev.pos (by omega) (Ev.pos (by omega) (Ev.pos (by omega) (Ev.pos (by omega) z)))))
theorem paste_loop (n : Nat) (hn : n ≤ 300) (l : List Sp) (ps : List ByteArray) (hp : ps.length = l.length) (hl : l.length ≤ 12) (h1 : l.all spanB = true) (h2 : (l.all fun x => decide (x.f1 ≤ (n : Int))) = true) : ∀ (d i : Nat) (cs : List Int), i + d = l.length → cs.length = n →
    ∃ r : ByteArray × Bool, pasteL cs (l.drop i) (ps.drop i) = some r ∧ Ev (fun k => spec_PasteSpans.l1 k ps cs l (l.length : Int) (i : Int)) r := by
  intro d
  induction d with
  | zero =>
    intro i cs hi hc
    refine ⟨(strOfNums cs, true), ?_, Ev.step (fun k => rfl) ?_⟩
    · rw [List.drop_eq_nil_of_le (by omega)]; rfl
    · simp only [spec_PasteSpans.l1]; exact Ev.neg (by omega) (Ev.now _)
  | succ d ih =>
    intro i cs hi hc
    have hlt : i < l.length := by omega
    have hlp : i < ps.length := by omega
    have a1 := List.all_eq_true.1 h1 l[i] (List.getElem_mem hlt)
    have a2 := of_decide_eq_true (List.all_eq_true.1 h2 l[i] (List.getElem_mem hlt))
    unfold spanB at a1
    simp only [Bool.and_eq_true, decide_eq_true_eq] at a1
    obtain ⟨b1, b2, b3⟩ := a1
    rw [List.drop_eq_getElem_cons hlt, List.drop_eq_getElem_cons hlp]
    simp only [pasteL]
    by_cases e : (ps[i].size : Int) = wrap64 (l[i].f1 - l[i].f0)
    · have e' := e
      rw [wrap_id (by omega) (by omega)] at e'
      have ho : l[i].f0.toNat + ps[i].size ≤ cs.length := by omega
      have hnl : (numsOf ps[i]).length = ps[i].size := numsOf_length _
      obtain ⟨r, r1, r2⟩ := ih (i + 1) (putB cs l[i].f0.toNat (numsOf ps[i])) (by omega) ((putB_length (by omega)).trans hc)
      refine ⟨r, ?_, Ev.step (fun k => rfl) ?_⟩
      · rw [if_pos e, if_pos ⟨b1, ho, by omega⟩]; exact r1
      · simp only [spec_PasteSpans.l1]
        rw [rd_span l i hlt, rdOf_get ps i hlp]
        have z := paste_inner l ps i r hlt hlp cs l[i].f0 l[i].f1 l[i].f0.toNat (by omega) (by omega) ho (by omega) r2 ps[i].size 0 (by omega)
        rw [putB_zero] at z
        exact Ev.pos (by omega) (Ev.pos (by omega) (Ev.pos (by omega) (Ev.pos (by omega) (Ev.pos e z))))
    · refine ⟨((⟨#[]⟩ : ByteArray), false), if_neg e, Ev.step (fun k => rfl) ?_⟩
      simp only [spec_PasteSpans.l1]
      rw [rd_span l i hlt, rdOf_get ps i hlp]
      exact Ev.pos (by omega) (Ev.pos (by omega) (Ev.pos (by omega) (Ev.pos (by omega) (Ev.neg e (Ev.now _)))))
theorem fill_set (n i : Nat) (h : i < n) : (List.replicate i (46 : Int) ++ List.replicate (n - i) 0).set i 46 = List.replicate (i + 1) 46 ++ List.replicate (n - (i + 1)) 0 := by
  rw [List.set_append_right _ _ (by simp), List.length_replicate, Nat.sub_self, show n - i = (n - (i + 1)) + 1 by omega, List.replicate_succ, List.set_cons_zero, List.replicate_succ', List.append_assoc]
  rfl
theorem fill_loop (n : Nat) (hn : n ≤ 300) (l : List Sp) (ps : List ByteArray) (r : ByteArray × Bool) (h : Ev (fun k => spec_PasteSpans.l1 k ps (List.replicate n 46) l (l.length : Int) 0) r) : ∀ (d i : Nat), i + d = n →
    Ev (fun k => spec_PasteSpans.l0 k l ps (List.replicate i 46 ++ List.replicate (n - i) 0) (n : Int) (i : Int)) r := by
  intro d
  induction d with
  | zero =>
    intro i hi
    obtain rfl : i = n := by omega
    refine Ev.step (fun k => rfl) ?_
    simp only [spec_PasteSpans.l0]
    rw [Nat.sub_self, List.replicate_zero, List.append_nil]
    exact Ev.neg (by omega) h
  | succ d ih =>
    intro i hi
    have z := ih (i + 1) (by omega)
    refine Ev.step (fun k => rfl) ?_
    simp only [spec_PasteSpans.l0]
    rw [wrap_succ (i := i) (n := n) (by omega) (by omega), Int.toNat_natCast, fill_set n i (by omega)]
    exact Ev.pos (by omega) (Ev.pos (by omega) (Ev.pos (by simp only [List.length_append, List.length_replicate]; omega) z))
theorem paste_eq (a : Int) (l : List Sp) (ps : List ByteArray) (hl : l.length ≤ 1000000000) (hp : ps.length ≤ 1000000000) : ∃ r : ByteArray × Bool, Ev (fun k => spec_PasteSpans.f k a l ps) r ∧ impl_PasteSpans.f a l ps = some r := by
  have s0 : Ev (fun k => spec_PasteSpans.j0 k a l ps true) ((⟨#[]⟩ : ByteArray), false) := by
    refine Ev.step (fun k => rfl) ?_
    simp only [spec_PasteSpans.j0]
    exact Ev.pos (by trivial) (Ev.now _)
  unfold spec_PasteSpans.f impl_PasteSpans.f
  have e1 : spec_l1In.f a 0 300 = some (decide (0 ≤ a) && decide (a ≤ 300)) := by
    unfold spec_l1In.f
    by_cases h : a ≥ 0
    · rw [if_pos h, decide_eq_true (show 0 ≤ a from h), Bool.true_and]
    · rw [if_neg h, decide_eq_false (show ¬ 0 ≤ a from h), Bool.false_and]
  have e2 : impl_within.f a 0 300 = some (decide (0 ≤ a) && decide (a ≤ 300)) := by
    unfold impl_within.f
    by_cases h : 0 ≤ a
    · rw [if_pos h, decide_eq_true h, Bool.true_and]
    · rw [if_neg h, decide_eq_false h, Bool.false_and]
  rw [e1, e2]
  cases hw : (decide (0 ≤ a) && decide (a ≤ 300)) with
  | false => exact ⟨((⟨#[]⟩ : ByteArray), false), Ev.bnd rfl (Ev.neg (by decide) s0), by rw [Option.bind_some, if_neg (by decide)]⟩
  | true =>
    simp only [Bool.and_eq_true, decide_eq_true_eq] at hw
    have w1 := within_spec l a hl
    have w2 := within_impl l a hl
    rw [w2, Option.bind_some, if_pos rfl, Option.bind_some]
    cases hv : ((l.all spanB && decide (l.length ≤ 12)) && l.all fun x => decide (x.f1 ≤ a)) with
    | false =>
      rw [hv] at w1
      exact ⟨((⟨#[]⟩ : ByteArray), false), Ev.bnd rfl (Ev.pos rfl (Ev.bind w1 (Ev.neg (by decide) s0))), by rw [if_neg (by decide)]⟩
    | true =>
      rw [hv] at w1
      simp only [Bool.and_eq_true, decide_eq_true_eq] at hv
      rw [if_pos rfl]
      by_cases hn : (ps.length : Int) = (l.length : Int)
      · obtain ⟨n, rfl⟩ : ∃ n : Nat, a = (n : Int) := ⟨a.toNat, by omega⟩
        obtain ⟨r, r1, r2⟩ := paste_loop n (by omega) l ps (by omega) hv.1.2 hv.1.1 hv.2 l.length 0 (List.replicate n 46) (by omega) List.length_replicate
        rw [List.drop_zero, List.drop_zero] at r1
        refine ⟨r, Ev.bnd rfl (Ev.pos rfl (Ev.bind w1 (Ev.pos rfl ?_))), by rw [if_pos hn, if_pos (by omega), Int.toNat_natCast]; exact r1⟩
        have e3 : ((ps.length : Int) != (l.length : Int)) = false := by rw [hn]; simp
        rw [e3]
        refine Ev.step (fun k => rfl) ?_
        simp only [spec_PasteSpans.j0]
        rw [Int.toNat_natCast]
        have z := fill_loop n (by omega) l ps r r2 n 0 (by omega)
        rw [Nat.sub_zero, List.replicate_zero, List.nil_append] at z
        exact Ev.neg (by decide) (Ev.pos (by omega) (Ev.pos (by omega) (Ev.bnd rfl (by rw [List.length_replicate]; exact z))))
      · have e3 : ((ps.length : Int) != (l.length : Int)) = true := bne_iff_ne.2 hn
        refine ⟨((⟨#[]⟩ : ByteArray), false), Ev.bnd rfl (Ev.pos rfl (Ev.bind w1 (Ev.pos rfl ?_))), by rw [if_neg hn]⟩
        rw [e3]
        exact s0
theorem eq_texts (l : List ByteArray) (hl : l.length ≤ 1000000000) : Ev (fun k => laws_eqStringS.f k l l) true := by
  unfold laws_eqStringS.f
  refine Ev.pos rfl (go_to (fun k i => laws_eqStringS.l0 k l l i) l.length true ?_ l.length 0 (by omega) (fun j _ hj h => ?_))
  · refine Ev.step (fun k => rfl) ?_
    simp only [laws_eqStringS.l0]
    exact Ev.neg (by omega) (Ev.now _)
  · refine Ev.step (fun k => rfl) ?_
    simp only [laws_eqStringS.l0]
    rw [wrap_succ hj (by omega)]
    exact Ev.pos (by omega) (Ev.pos (by omega) (Ev.pos (by omega) (Ev.pos (by trivial) h)))
theorem FnExactPasteSpans : laws_FnExactPasteSpans.Pure := by
  intro a l ps ha hl hg hp hps
  apply Ev.rounds
  unfold laws_FnExactPasteSpans.f
  obtain ⟨t, et, ht⟩ := sz_spans l hl
  refine Ev.bnd et ?_
  by_cases h1 : t < 0
  · exact Ev.pos h1 (Ev.now _)
  refine Ev.neg h1 ?_
  have hl6 := ht h1
  have ht2 : t ≤ 1048576 := by
    unfold laws_szSpanS.f at et
    rw [wrap_id (x := 1048576 - (l.length : Int)) (by omega) (by omega)] at et
    split at et
    · injection et with et; omega
    · injection et with et; omega
  obtain ⟨u, eu, hu0, hu⟩ := sz_strings ps t hp hps (by omega) ht2
  refine Ev.bind eu ?_
  by_cases h2 : u < 0
  · exact Ev.pos h2 (Ev.now _)
  refine Ev.neg h2 ?_
  have hu1 := hu h2
  have T := to_spans l (by omega)
  have S := to_strings ps (by omega)
  have hml : (l.map spOf).length = l.length := List.length_map ..
  obtain ⟨r, r1, r2⟩ := paste_eq a (l.map spOf) ps (by omega) (by omega)
  have E1 := eq_spans (l.map spOf) (by omega)
  have E2 := eq_texts ps (by omega)
  refine Ev.bind T (Ev.bind S (Ev.bind r1 (Ev.bind T (Ev.bind S (Ev.bnd r2 (Ev.pos rfl ?_))))))
  rw [show (r.2 != r.2) = false by simp]
  refine Ev.step (fun k => rfl) ?_
  simp only [laws_FnExactPasteSpans.j0]
  exact Ev.neg (by decide) (Ev.bind T (Ev.bind E1 (Ev.pos rfl (Ev.bind S (Ev.bind E2 (Ev.pos rfl (Ev.now _)))))))
end Go.Proofs.Ytchlnmkjfjdamaa.Pure

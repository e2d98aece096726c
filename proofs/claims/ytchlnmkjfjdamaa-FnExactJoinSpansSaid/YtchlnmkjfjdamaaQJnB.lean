/- Spans joined: the reference's insertion and the program's sort come to one. No condition. -/
import Derived.Test.YtchlnmkjfjdamaaF1
import Derived.Test.YtchlnmkjfjdamaaF2
import Derived.Test.YtchlnmkjfjdamaaQJnA
namespace Go.Proofs.Ytchlnmkjfjdamaa.Q
set_option linter.unusedVariables false
set_option linter.unusedSimpArgs false
open Go.RowKit Go.Proofs.Ytchlnmkjfjdamaa.F Go.Proofs.YtchlnmkjfjdamaaHw Go.Proofs.YtchlnmkjfjdamaaPl Go.Proofs.YtchlnmkjfjdamaaW.PrintWords
theorem ins_ev (g : Int) (l : List Sp) (i : Nat) (hi : i < l.length) (hl : l.length ≤ 12) (L : List Sp) (hL : L.length ≤ 12) (s : Sp) (r : List Sp) : ∀ (d j : Nat), j + d = L.length →
    Ev (fun k => spec_l6Join.l0 k g (L.take j ++ pIns s (L.drop j)) l (l.length : Int) ((i + 1 : Nat) : Int)) r → Ev (fun k => spec_l6Join.l1 k g L (j : Int) l (l.length : Int) (i : Int) s.f0 s.f1) r := by
  intro d
  induction d with
  | zero =>
    intro j hj h
    obtain rfl : j = L.length := by omega
    refine Ev.step (fun k => rfl) ?_
    simp only [spec_l6Join.l1, Int.toNat_natCast]
    rw [wrap_succ hi (by omega)]
    rw [List.drop_length, show pIns s [] = [s] from rfl] at h
    refine Ev.neg (by omega) (Ev.pos (by omega) (Ev.pos (by omega) (Ev.bnd rfl (Ev.pos (by simp; omega) (Ev.bnd rfl (Ev.pos (by simp; omega) (Ev.bnd rfl (Ev.bnd rfl (Ev.pos (by simp; omega) ?_)))))))))
    rw [List.drop_length, List.nil_append, List.append_nil]
    exact h
  | succ d ih =>
    intro j hj h
    have hlt : j < L.length := by omega
    refine Ev.step (fun k => rfl) ?_
    simp only [spec_l6Join.l1, Int.toNat_natCast]
    rw [rd_span L j hlt, wrap_succ hlt (by omega), wrap_succ hi (by omega)]
    refine Ev.pos (by omega) (Ev.pos (by omega) ?_)
    have hd : L.drop j = L[j] :: L.drop (j + 1) := List.drop_eq_getElem_cons hlt
    rw [hd] at h
    by_cases c : L[j].f0 ≤ s.f0
    · have e : pIns s (L[j] :: L.drop (j + 1)) = L[j] :: pIns s (L.drop (j + 1)) := by show (if L[j].f0 ≤ s.f0 then _ else _) = _; rw [if_pos c]
      rw [e, show L.take j ++ L[j] :: pIns s (L.drop (j + 1)) = L.take (j + 1) ++ pIns s (L.drop (j + 1)) by rw [List.take_succ_eq_append_getElem hlt, List.append_assoc]; rfl] at h
      exact Ev.pos c (ih (j + 1) (by omega) h)
    · have e : pIns s (L[j] :: L.drop (j + 1)) = s :: L.drop j := by show (if L[j].f0 ≤ s.f0 then _ else _) = _; rw [if_neg c, hd]
      rw [e] at h
      refine Ev.neg c (Ev.pos (by omega) (Ev.bnd rfl (Ev.pos (by simp; omega) (Ev.bnd rfl (Ev.pos (by simp; omega) (Ev.bnd rfl (Ev.bnd rfl (Ev.pos (by simp; omega) ?_))))))))
      rw [List.nil_append, List.append_assoc]
      exact h
theorem sort_ev (g : Int) (l : List Sp) (hl : l.length ≤ 12) (r : List Sp) : ∀ (d i : Nat) (L : List Sp), i + d = l.length → L.length = i →
    Ev (fun k => spec_l6Join.l2 k g ([] : List Sp) ((l.drop i).foldl (fun L s => pIns s L) L) (((l.drop i).foldl (fun L s => pIns s L) L).length : Int) 0) r → Ev (fun k => spec_l6Join.l0 k g L l (l.length : Int) (i : Int)) r := by
  intro d
  induction d with
  | zero =>
    intro i L hi hL h
    rw [List.drop_eq_nil_of_le (by omega), List.foldl_nil] at h
    refine Ev.step (fun k => rfl) ?_
    simp only [spec_l6Join.l0]
    exact Ev.neg (by omega) h
  | succ d ih =>
    intro i L hi hL h
    have hlt : i < l.length := by omega
    rw [List.drop_eq_getElem_cons hlt, List.foldl_cons] at h
    have z := ih (i + 1) (pIns l[i] L) (by omega) (by rw [pIns_length]; omega) h
    refine Ev.step (fun k => rfl) ?_
    simp only [spec_l6Join.l0]
    rw [rd_span l i hlt]
    exact Ev.pos (by omega) (Ev.pos (by omega) (Ev.pos (by omega) (ins_ev g l i hlt hl L (by omega) l[i] r L.length 0 (by omega) z)))
/-- What the joined spans are known to be. -/
def Fine (out : List Sp) : Prop := ∀ q ∈ out, 0 ≤ q.f0 ∧ 0 < q.f1 ∧ q.f1 ≤ 1000000
theorem fine_stp {g : Int} {out : List Sp} {s : Sp} (h : Fine out) (hs : Val s) : Fine (stp g out s) := by
  obtain ⟨s0, s1, s2⟩ := hs
  rcases nil_or_snoc out with rfl | ⟨i, q, rfl⟩
  · rw [stp_nil]
    intro y hy
    rw [List.mem_singleton.1 hy]
    exact ⟨s0, by omega, s2⟩
  · rw [stp_snoc]
    obtain ⟨q0, q1, q2⟩ := h q (by simp)
    by_cases c : s.f0 ≤ q.f1 + g
    · rw [if_pos c]
      intro y hy
      rcases List.mem_append.1 hy with hy | hy
      · exact h y (List.mem_append_left _ hy)
      · rw [List.mem_singleton.1 hy]
        exact ⟨q0, by show 0 < max q.f1 s.f1; omega, by show max q.f1 s.f1 ≤ 1000000; omega⟩
    · rw [if_neg c]
      intro y hy
      rcases List.mem_append.1 hy with hy | hy
      · exact h y hy
      · rw [List.mem_singleton.1 hy]
        exact ⟨s0, by omega, s2⟩
theorem stp_length (g : Int) (out : List Sp) (s : Sp) : (stp g out s).length ≤ out.length + 1 := by
  rcases nil_or_snoc out with rfl | ⟨i, q, rfl⟩
  · rw [stp_nil]; simp
  · rw [stp_snoc]
    split <;> simp
theorem set_last (i : List Sp) (q x : Sp) : (i ++ [q]).set i.length x = i ++ [x] := by
  rw [List.set_append_right _ _ (Nat.le_refl _), Nat.sub_self]
  rfl
theorem rd_last (i : List Sp) (q : Sp) : rd_T48 (i ++ [q]) (i.length : Int) = q := by
  rw [rd_span _ i.length (by simp)]
  simp
theorem last_no (i : List Sp) (q : Sp) (h : i.length ≤ 12) : wrap64 (((i ++ [q]).length : Int) - 1) = (i.length : Int) := by
  rw [List.length_append, List.length_singleton, wrap_id (by omega) (by omega)]
  omega
theorem spec_fold (g : Int) (h0 : 0 ≤ g) (h1 : g ≤ 1000) (S : List Sp) (hS : S.length ≤ 12) (hv : ∀ y ∈ S, Val y) : ∀ (d i : Nat) (out : List Sp), i + d = S.length → out.length ≤ i → Fine out →
    Ev (fun k => spec_l6Join.l2 k g out S (S.length : Int) (i : Int)) ((S.drop i).foldl (stp g) out) := by
  intro d
  induction d with
  | zero =>
    intro i out hi ho hf
    rw [List.drop_eq_nil_of_le (by omega), List.foldl_nil]
    refine Ev.step (fun k => rfl) ?_
    simp only [spec_l6Join.l2]
    exact Ev.neg (by omega) (Ev.now _)
  | succ d ih =>
    intro i out hi ho hf
    have hlt : i < S.length := by omega
    have hs := hv S[i] (List.getElem_mem hlt)
    have z := ih (i + 1) (stp g out S[i]) (by omega) (by have := stp_length g out S[i]; omega) (fine_stp hf hs)
    rw [List.drop_eq_getElem_cons hlt, List.foldl_cons]
    generalize ((S.drop (i + 1)).foldl (stp g) (stp g out S[i])) = r at z ⊢
    refine Ev.step (fun k => rfl) ?_
    simp only [spec_l6Join.l2]
    rw [rd_span S i hlt]
    refine Ev.pos (by omega) (Ev.pos (by omega) (Ev.pos (by omega) ?_))
    obtain ⟨s0, s1, s2⟩ := hs
    generalize S[i] = s at z s0 s1 s2 ⊢
    rcases nil_or_snoc out with rfl | ⟨o, q, rfl⟩
    · rw [stp_nil] at z
      have e : wrap64 ((([] : List Sp).length : Int) - 1) = -1 := by rw [List.length_nil, wrap_id (by omega) (by omega)]; rfl
      rw [e]
      refine Ev.neg (by omega) (Ev.step (fun k => rfl) ?_)
      simp only [spec_l6Join.j3]
      rw [wrap_succ hlt (by omega)]
      exact Ev.neg (by decide) (Ev.pos (by simp) z)
    · have hol : o.length + 1 ≤ i := by simpa using ho
      obtain ⟨q0, q1, q2⟩ := hf q (by simp)
      rw [last_no o q (by omega), rd_last, wrap_id (x := q.f1 + g) (by omega) (by omega)]
      rw [stp_snoc] at z
      have hlo : (o.length : Int) < ((o ++ [q]).length : Int) := by rw [List.length_append, List.length_singleton]; omega
      have hln : (o ++ [q]).length < 8796093022208 := by rw [List.length_append, List.length_singleton]; omega
      refine Ev.pos (by omega) (Ev.pos (by omega) (Ev.pos hlo (Ev.step (fun k => rfl) ?_)))
      simp only [spec_l6Join.j3, Int.toNat_natCast]
      rw [rd_last, wrap_succ hlt (by omega), set_last]
      by_cases c : s.f0 ≤ q.f1 + g
      · rw [if_pos c] at z
        refine Ev.pos (decide_eq_true c) (Ev.pos (by omega) (Ev.pos hlo ?_))
        by_cases c2 : s.f1 > q.f1
        · rw [show max q.f1 s.f1 = s.f1 by omega] at z
          exact Ev.pos c2 z
        · rw [show max q.f1 s.f1 = q.f1 by omega] at z
          exact Ev.neg c2 z
      · rw [if_neg c] at z
        exact Ev.neg (by rw [decide_eq_true_iff]; exact c) (Ev.pos hln z)
theorem impl_fold (g : Int) (h0 : 0 ≤ g) (h1 : g ≤ 1000) (S : List Sp) (hS : S.length ≤ 12) (hv : ∀ y ∈ S, Val y) : ∀ (d i : Nat) (out : List Sp), i + d = S.length → out.length ≤ i → Fine out →
    Ev (fun k => impl_joined.l0 k g out S (S.length : Int) (i : Int)) ((S.drop i).foldl (stp g) out) := by
  intro d
  induction d with
  | zero =>
    intro i out hi ho hf
    rw [List.drop_eq_nil_of_le (by omega), List.foldl_nil]
    refine Ev.step (fun k => rfl) ?_
    simp only [impl_joined.l0]
    exact Ev.neg (by omega) (Ev.now _)
  | succ d ih =>
    intro i out hi ho hf
    have hlt : i < S.length := by omega
    have hs := hv S[i] (List.getElem_mem hlt)
    have z := ih (i + 1) (stp g out S[i]) (by omega) (by have := stp_length g out S[i]; omega) (fine_stp hf hs)
    rw [List.drop_eq_getElem_cons hlt, List.foldl_cons]
    generalize ((S.drop (i + 1)).foldl (stp g) (stp g out S[i])) = r at z ⊢
    refine Ev.step (fun k => rfl) ?_
    simp only [impl_joined.l0]
    rw [rd_span S i hlt, wrap_succ hlt (by omega)]
    refine Ev.pos (by omega) (Ev.pos (by omega) (Ev.pos (by omega) ?_))
    obtain ⟨s0, s1, s2⟩ := hs
    generalize S[i] = s at z s0 s1 s2 ⊢
    rcases nil_or_snoc out with rfl | ⟨o, q, rfl⟩
    · rw [stp_nil] at z
      have e : wrap64 ((([] : List Sp).length : Int) - 1) = -1 := by rw [List.length_nil, wrap_id (by omega) (by omega)]; rfl
      rw [e]
      exact Ev.neg (by omega) (Ev.pos (by simp) z)
    · have hol : o.length + 1 ≤ i := by simpa using ho
      obtain ⟨q0, q1, q2⟩ := hf q (by simp)
      rw [last_no o q (by omega), rd_last, wrap_id (x := s.f0 - q.f1) (by omega) (by omega), Int.toNat_natCast, set_last, mx_max]
      rw [stp_snoc] at z
      have hlo : (o.length : Int) < ((o ++ [q]).length : Int) := by rw [List.length_append, List.length_singleton]; omega
      have hln : (o ++ [q]).length < 8796093022208 := by rw [List.length_append, List.length_singleton]; omega
      refine Ev.pos (by omega) (Ev.pos (by omega) (Ev.pos hlo ?_))
      by_cases c : s.f0 ≤ q.f1 + g
      · rw [if_pos c] at z
        exact Ev.pos (by omega) z
      · rw [if_neg c] at z
        exact Ev.neg (by omega) (Ev.pos hln z)
theorem toSP_of {x : Sp} (h : Val x) : ofSP (toSP x) = x := by
  have hg : goodSP x = true := by
    unfold goodSP
    obtain ⟨h0, h1, h2⟩ := h
    simp only [Bool.and_eq_true, decide_eq_true_eq]
    omega
  have := toSP_val hg
  unfold ofSP
  rw [this]
theorem fold_length (g : Int) : ∀ (S out : List Sp), (S.foldl (stp g) out).length ≤ out.length + S.length
  | [], out => by simp
  | s :: S, out => by
    have h1 := fold_length g S (stp g out s)
    have h2 := stp_length g out s
    rw [List.foldl_cons, List.length_cons]
    omega
theorem join_eq (g : Int) (h0 : 0 ≤ g) (h1 : g ≤ 1000) (l : List Sp) (hl : l.length ≤ 12) (hv : l.all spanB = true) : ∃ r : List Sp, r.length ≤ 12 ∧ Ev (fun k => spec_l6Join.f k l g) r ∧ Ev (fun k => impl_joined.f k l g) r := by
  have hV : ∀ y ∈ l, Val y := fun y hy => spanB_val (List.all_eq_true.1 hv y hy)
  have p1 := sorts_perm l
  have l1 := p1.length_eq
  obtain ⟨T, hT⟩ : ∃ T, T = (Go.Proofs.YtchlnmkjfjdamaaSrt.sortS (l.map toSP)).map ofSP := ⟨_, rfl⟩
  have p2 : T.Perm l := by
    have := (Go.Proofs.YtchlnmkjfjdamaaSrt.sortS_perm (l.map toSP)).map ofSP
    rw [← hT, List.map_map] at this
    have e : l.map (ofSP ∘ toSP) = l := by
      conv => rhs; rw [← List.map_id l]
      exact List.map_congr_left fun x hx => toSP_of (hV x hx)
    rwa [e] at this
  have s2 : T.Pairwise (fun x y => x.f0 ≤ y.f0) := by
    rw [hT]
    exact List.pairwise_map.2 (Go.Proofs.YtchlnmkjfjdamaaSrt.sortS_sorted (l.map toSP))
  have l2 := p2.length_eq
  have hg : l.all goodSP = true := List.all_eq_true.2 fun y hy => by
    obtain ⟨a0, a1, a2⟩ := hV y hy
    unfold goodSP
    simp only [Bool.and_eq_true, decide_eq_true_eq]
    omega
  have e := fold_perm g h0 (sorts l) T [] (p1.trans p2.symm) (sorts_sorted l) s2 (fun y hy => hV y (p1.subset hy))
  have z1 := spec_fold g h0 h1 (sorts l) (by omega) (fun y hy => hV y (p1.subset hy)) (sorts l).length 0 [] (by omega) (Nat.le_refl _) (fun y hy => by cases hy)
  have z2 := impl_fold g h0 h1 T (by omega) (fun y hy => hV y (p2.subset hy)) T.length 0 [] (by omega) (Nat.le_refl _) (fun y hy => by cases hy)
  rw [List.drop_zero] at z1 z2
  rw [e] at z1
  refine ⟨T.foldl (stp g) [], by have := fold_length g T []; simp at this; omega, ?_, ?_⟩
  · unfold spec_l6Join.f
    exact sort_ev g l hl _ l.length 0 [] (by omega) rfl z1
  · unfold impl_joined.f impl_Span_48_50.f
    rw [if_pos ⟨hl, hg⟩, ← hT]
    exact Ev.bnd rfl z2
end Go.Proofs.Ytchlnmkjfjdamaa.Q

/- Spans joined: what comes of them does not hang on the order of those that begin alike. No condition. -/
import Derived.Test.YtchlnmkjfjdamaaQSpans
namespace Go.Proofs.Ytchlnmkjfjdamaa.Q
set_option linter.unusedVariables false
set_option linter.unusedSimpArgs false
open Go.RowKit Go.Proofs.Ytchlnmkjfjdamaa.F Go.Proofs.YtchlnmkjfjdamaaHw Go.Proofs.YtchlnmkjfjdamaaPl Go.Proofs.YtchlnmkjfjdamaaW.PrintWords
def Val (x : Sp) : Prop := 0 ≤ x.f0 ∧ x.f0 < x.f1 ∧ x.f1 ≤ 1000000
theorem spanB_val {x : Sp} (h : spanB x = true) : Val x := by
  unfold spanB at h
  simp only [Bool.and_eq_true, decide_eq_true_eq] at h
  exact h
/-- One span more: it is joined to the last one, or stands behind it. -/
def stp (g : Int) (out : List Sp) (s : Sp) : List Sp :=
  if h : out = [] then [s] else if s.f0 ≤ (out.getLast h).f1 + g then out.dropLast ++ [⟨(out.getLast h).f0, max (out.getLast h).f1 s.f1⟩] else out ++ [s]
theorem stp_nil (g : Int) (s : Sp) : stp g [] s = [s] := by unfold stp; rw [dif_pos rfl]
theorem stp_snoc (g : Int) (i : List Sp) (q s : Sp) : stp g (i ++ [q]) s = if s.f0 ≤ q.f1 + g then i ++ [⟨q.f0, max q.f1 s.f1⟩] else i ++ [q] ++ [s] := by
  unfold stp
  rw [dif_neg (by simp)]
  simp
theorem nil_or_snoc (l : List Sp) : l = [] ∨ ∃ (i : List Sp) (q : Sp), l = i ++ [q] := by
  by_cases h : l = []
  · exact .inl h
  · exact .inr ⟨l.dropLast, l.getLast h, (List.dropLast_concat_getLast h).symm⟩
theorem sp_ext {a b : Sp} (h0 : a.f0 = b.f0) (h1 : a.f1 = b.f1) : a = b := by cases a; cases b; simp_all
theorem stp_swap (g : Int) (hg : 0 ≤ g) (out : List Sp) (s t : Sp) (hs : Val s) (ht : Val t) (e : s.f0 = t.f0) : stp g (stp g out s) t = stp g (stp g out t) s := by
  obtain ⟨s0, s1, s2⟩ := hs
  obtain ⟨t0, t1, t2⟩ := ht
  have base : ∀ i : List Sp, stp g (i ++ [s]) t = stp g (i ++ [t]) s := fun i => by
    rw [stp_snoc, stp_snoc, if_pos (by omega), if_pos (by omega)]
    congr 2
    exact sp_ext e (by show max s.f1 t.f1 = max t.f1 s.f1; omega)
  rcases nil_or_snoc out with rfl | ⟨i, q, rfl⟩
  · rw [stp_nil, stp_nil]
    exact base []
  · rw [stp_snoc, stp_snoc]
    by_cases c : s.f0 ≤ q.f1 + g
    · rw [if_pos c, if_pos (by omega), stp_snoc, stp_snoc, if_pos (by show t.f0 ≤ max q.f1 s.f1 + g; omega), if_pos (by show s.f0 ≤ max q.f1 t.f1 + g; omega)]
      congr 2
      exact sp_ext rfl (by show max (max q.f1 s.f1) t.f1 = max (max q.f1 t.f1) s.f1; omega)
    · rw [if_neg c, if_neg (by omega)]
      exact base (i ++ [q])
theorem fold_move (g : Int) (hg : 0 ≤ g) (x : Sp) (hx : Val x) : ∀ (b : List Sp) (out : List Sp), (∀ y ∈ b, Val y ∧ y.f0 = x.f0) → (b ++ [x]).foldl (stp g) out = (x :: b).foldl (stp g) out
  | [], _, _ => rfl
  | y :: b, out, h => by
    obtain ⟨hy, e⟩ := h y List.mem_cons_self
    have ih := fold_move g hg x hx b (stp g out y) (fun z hz => h z (List.mem_cons_of_mem _ hz))
    simp only [List.cons_append, List.foldl_cons] at ih ⊢
    rw [ih, stp_swap g hg out y x hy hx e]
theorem fold_perm (g : Int) (hg : 0 ≤ g) : ∀ (a b : List Sp) (out : List Sp), a.Perm b → a.Pairwise (fun x y => x.f0 ≤ y.f0) → b.Pairwise (fun x y => x.f0 ≤ y.f0) → (∀ y ∈ a, Val y) → a.foldl (stp g) out = b.foldl (stp g) out
  | [], b, out, h, _, _, _ => by rw [List.nil_perm.1 h]
  | x :: a, b, out, h, ha, hb, hv => by
    obtain ⟨b1, b2, rfl⟩ := List.append_of_mem (h.subset List.mem_cons_self)
    have h2 : a.Perm (b1 ++ b2) := (h.trans List.perm_middle).cons_inv
    obtain ⟨ha1, ha2⟩ := List.pairwise_cons.1 ha
    have hb1 : ∀ y ∈ b1, Val y ∧ y.f0 = x.f0 := fun y hy => by
      have m : y ∈ x :: a := h.symm.subset (List.mem_append_left _ hy)
      refine ⟨hv y m, ?_⟩
      have l1 : y.f0 ≤ x.f0 := (List.pairwise_append.1 hb).2.2 y hy x List.mem_cons_self
      rcases List.mem_cons.1 m with rfl | m
      · rfl
      · have := ha1 y m; omega
    have hs : (b1 ++ b2).Pairwise (fun x y => x.f0 ≤ y.f0) := hb.sublist (List.Sublist.append_left (List.sublist_cons_self x b2) b1)
    have ih := fold_perm g hg a (b1 ++ b2) (stp g out x) h2 ha2 hs (fun y hy => hv y (List.mem_cons_of_mem _ hy))
    have e1 : b1 ++ x :: b2 = (b1 ++ [x]) ++ b2 := by simp
    rw [List.foldl_cons, ih, e1, List.foldl_append, List.foldl_append, fold_move g hg x (hv x List.mem_cons_self) b1 out hb1, List.foldl_cons]
/-- One span more among those that are by where they begin: behind all that begin no later. -/
def pIns (s : Sp) : List Sp → List Sp
  | [] => [s]
  | x :: r => if x.f0 ≤ s.f0 then x :: pIns s r else s :: x :: r
theorem pIns_perm (s : Sp) : ∀ L : List Sp, (pIns s L).Perm (s :: L)
  | [] => List.Perm.refl _
  | x :: r => by
    unfold pIns
    by_cases c : x.f0 ≤ s.f0
    · rw [if_pos c]; exact ((pIns_perm s r).cons x).trans (List.Perm.swap s x r)
    · rw [if_neg c]
theorem pIns_sorted (s : Sp) : ∀ L : List Sp, L.Pairwise (fun x y => x.f0 ≤ y.f0) → (pIns s L).Pairwise (fun x y => x.f0 ≤ y.f0)
  | [], _ => List.pairwise_singleton _ _
  | x :: r, h => by
    obtain ⟨h1, h2⟩ := List.pairwise_cons.1 h
    unfold pIns
    by_cases c : x.f0 ≤ s.f0
    · rw [if_pos c]
      refine List.pairwise_cons.2 ⟨fun y hy => ?_, pIns_sorted s r h2⟩
      rcases List.mem_cons.1 ((pIns_perm s r).subset hy) with rfl | hy
      · exact c
      · exact h1 y hy
    · rw [if_neg c]
      refine List.pairwise_cons.2 ⟨fun y hy => ?_, h⟩
      rcases List.mem_cons.1 hy with rfl | hy
      · omega
      · have := h1 y hy; omega
theorem pIns_length (s : Sp) (L : List Sp) : (pIns s L).length = L.length + 1 := (pIns_perm s L).length_eq
def sorts (l : List Sp) : List Sp := l.foldl (fun L s => pIns s L) []
theorem sorts_aux : ∀ (l L : List Sp), L.Pairwise (fun x y => x.f0 ≤ y.f0) → (l.foldl (fun L s => pIns s L) L).Perm (l ++ L) ∧ (l.foldl (fun L s => pIns s L) L).Pairwise (fun x y => x.f0 ≤ y.f0)
  | [], L, h => ⟨List.Perm.refl _, h⟩
  | s :: l, L, h => by
    obtain ⟨h1, h2⟩ := sorts_aux l (pIns s L) (pIns_sorted s L h)
    rw [List.foldl_cons]
    exact ⟨h1.trans (((pIns_perm s L).append_left l).trans List.perm_middle), h2⟩
theorem sorts_perm (l : List Sp) : (sorts l).Perm l := by
  have := (sorts_aux l [] List.Pairwise.nil).1
  rwa [List.append_nil] at this
theorem sorts_sorted (l : List Sp) : (sorts l).Pairwise (fun x y => x.f0 ≤ y.f0) := (sorts_aux l [] List.Pairwise.nil).2
theorem mx_max (a b : Int) : mx a b = max a b := by unfold mx; split <;> omega
end Go.Proofs.Ytchlnmkjfjdamaa.Q

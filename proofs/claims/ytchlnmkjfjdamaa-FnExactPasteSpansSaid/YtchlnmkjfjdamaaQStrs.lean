/- Rows of texts: their size as the laws reckon it, and their copy. No condition. -/
import Derived.Test.YtchlnmkjfjdamaaF1
import Derived.Test.YtchlnmkjfjdamaaQList
namespace Go.Proofs.Ytchlnmkjfjdamaa.Q
set_option linter.unusedVariables false
set_option linter.unusedSimpArgs false
open Go.RowKit Go.Proofs.Ytchlnmkjfjdamaa.F Go.Proofs.YtchlnmkjfjdamaaHw Go.Proofs.YtchlnmkjfjdamaaPl Go.Proofs.YtchlnmkjfjdamaaW.PrintWords
/-- All texts' sizes. -/
def sizes : List ByteArray → Nat
  | [] => 0
  | x :: r => x.size + sizes r
theorem sizes_mem : ∀ {l : List ByteArray} {x : ByteArray}, x ∈ l → x.size ≤ sizes l
  | y :: r, x, h => by
    unfold sizes
    rcases List.mem_cons.1 h with rfl | h
    · omega
    · have := sizes_mem h; omega
theorem sizes_drop (l : List ByteArray) (i : Nat) (h : i < l.length) : sizes (l.drop i) = l[i].size + sizes (l.drop (i + 1)) := by
  rw [List.drop_eq_getElem_cons h]; rfl
theorem sz_loop (l : List ByteArray) (hl : l.length ≤ 9000000000000000000) (hs : ∀ x ∈ l, x.size ≤ 9223372036854775807) : ∀ (d i : Nat) (n : Int), i + d = l.length → 0 ≤ n → n ≤ 1048576 →
    ∃ t : Int, Ev (fun k => laws_szStringS.l0 k l n (i : Int)) t ∧ t ≤ n ∧ (¬ t < 0 → (sizes (l.drop i) : Int) + t = n) := by
  intro d
  induction d with
  | zero =>
    intro i n hi h0 h1
    refine ⟨n, ?_, by omega, fun _ => ?_⟩
    · refine Ev.step (fun k => rfl) ?_
      simp only [laws_szStringS.l0]
      exact Ev.neg (by omega) (Ev.now _)
    · rw [List.drop_eq_nil_of_le (by omega)]; unfold sizes; omega
  | succ d ih =>
    intro i n hi h0 h1
    have hlt : i < l.length := by omega
    have hx : l[i].size ≤ 9223372036854775807 := hs _ (List.getElem_mem hlt)
    have e1 : wrap64 (n - (l[i].size : Int)) = n - (l[i].size : Int) := wrap_id (by omega) (by omega)
    by_cases g : n - (l[i].size : Int) < 0
    · refine ⟨-1, ?_, by omega, fun h => absurd (by decide) h⟩
      refine Ev.step (fun k => rfl) ?_
      simp only [laws_szStringS.l0]
      rw [rdOf_get l i hlt, e1]
      exact Ev.pos (by omega) (Ev.pos (by omega) (Ev.pos g (Ev.now _)))
    · obtain ⟨t, t1, t2, t3⟩ := ih (i + 1) (n - (l[i].size : Int)) (by omega) (by omega) (by omega)
      refine ⟨t, ?_, by omega, fun h => ?_⟩
      · refine Ev.step (fun k => rfl) ?_
        simp only [laws_szStringS.l0]
        rw [rdOf_get l i hlt, e1, wrap_succ hlt (by omega)]
        exact Ev.pos (by omega) (Ev.pos (by omega) (Ev.neg g t1))
      · rw [sizes_drop l i hlt]
        have := t3 h
        omega
/-- The size of a row of texts, as the laws reckon it. -/
theorem sz_strings (l : List ByteArray) (n : Int) (hl : l.length ≤ 9223372036854775807) (hs : ∀ x ∈ l, x.size ≤ 9223372036854775807) (h0 : 0 ≤ n) (h1 : n ≤ 1048576) :
    ∃ t : Int, Ev (fun k => laws_szStringS.f k l n) t ∧ t ≤ n ∧ (¬ t < 0 → (l.length : Int) + sizes l + t = n) := by
  unfold laws_szStringS.f
  have e1 : wrap64 (n - (l.length : Int)) = n - (l.length : Int) := wrap_id (by omega) (by omega)
  rw [e1]
  by_cases g : n - (l.length : Int) < 0
  · exact ⟨-1, Ev.pos g (Ev.now _), by omega, fun h => absurd (by decide) h⟩
  · obtain ⟨t, t1, t2, t3⟩ := sz_loop l (by omega) hs l.length 0 (n - (l.length : Int)) (by omega) (by omega) (by omega)
    refine ⟨t, Ev.neg g t1, by omega, fun h => ?_⟩
    have := t3 h
    rw [List.drop_zero] at this
    omega
/-- A row of texts, copied. -/
theorem to_strings (l : List ByteArray) (hl : l.length ≤ 1000000000) : Ev (fun k => laws_toStringS.f k l) l := by
  have M : ∀ (d i : Nat) (x : List ByteArray), i + d = l.length → x.length = l.length → x.take i = l.take i → Ev (fun k => laws_toStringS.l0 k l x (i : Int)) l := by
    intro d
    induction d with
    | zero =>
      intro i x hi hx ht
      have : x = l := by
        rw [← List.take_length (l := x), ← List.take_length (l := l), hx, show l.length = i by omega]; exact ht
      subst this
      refine Ev.step (fun k => rfl) ?_
      simp only [laws_toStringS.l0]
      exact Ev.neg (by omega) (Ev.now _)
    | succ d ih =>
      intro i x hi hx ht
      have hlt : i < l.length := by omega
      have z := ih (i + 1) (x.set i l[i]) (by omega) (by rw [List.length_set]; exact hx) (by
        rw [List.take_succ_eq_append_getElem (by rw [List.length_set]; omega), List.take_succ_eq_append_getElem hlt, List.getElem_set_self, List.take_set_of_le (Nat.le_refl _), ht])
      refine Ev.step (fun k => rfl) ?_
      simp only [laws_toStringS.l0, Int.toNat_natCast]
      rw [rdOf_get l i hlt, wrap_succ hlt (by omega)]
      exact Ev.pos (by omega) (Ev.pos (by omega) (Ev.pos (by omega) z))
  unfold laws_toStringS.f
  rw [Int.toNat_natCast]
  exact Ev.pos (by omega) (Ev.pos (by omega) (M l.length 0 _ (by omega) List.length_replicate rfl))
end Go.Proofs.Ytchlnmkjfjdamaa.Q

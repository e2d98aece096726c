/- Texts that mark a row, and rows held one against the other: what the laws' own tests answer. No condition. -/
import Derived.Test.YtmnddfiidnemiaaDoorF2
import Derived.Test.YtmnddfiidnemiaaDoorQList
namespace Go.Proofs.YtmnddfiidnemiaaDoor.Q
set_option linter.unusedVariables false
set_option linter.unusedSimpArgs false
open Go.RowKit Go.Proofs.YtmnddfiidnemiaaDoor.F Go.Proofs.YtmnddfiidnemiaaDoorHw Go.Proofs.YtmnddfiidnemiaaDoorPl Go.Proofs.YtmnddfiidnemiaaDoorW.PrintWords
theorem eq_strings (l : List ByteArray) (hl : l.length ≤ 1000000000) : Ev (fun k => laws_eqStringS.f k l l) true := by
  unfold laws_eqStringS.f
  refine Ev.pos rfl (go_to (fun k i => laws_eqStringS.l0 k l l i) l.length true ?_ l.length 0 (by omega) (fun j _ hj h => ?_))
  · refine Ev.step (fun k => rfl) ?_
    simp only [laws_eqStringS.l0]
    exact Ev.neg (by omega) (Ev.now _)
  · refine Ev.step (fun k => rfl) ?_
    simp only [laws_eqStringS.l0]
    rw [wrap_succ hj (by omega)]
    exact Ev.pos (by omega) (Ev.pos (by omega) (Ev.pos (by omega) (Ev.pos (by trivial) h)))
theorem mark_loop : ∀ (d n : Nat) (x : ByteArray), n < d → n + x.size ≤ 9000000000000000000 → ∃ t, Ev (fun k => laws_markText.l0 k (n : Int) x) t
  | 0, n, x, h, _ => by omega
  | d + 1, n, x, h, hs => by
    by_cases h0 : n = 0
    · refine ⟨(⟨#[109]⟩ : ByteArray) ++ x, Ev.step (fun k => rfl) ?_⟩
      simp only [laws_markText.l0]
      exact Ev.neg (by omega) (Ev.pos (by omega) (Ev.now _))
    · have e : wrap64 (Int.tdiv (n : Int) 10) = ((n / 10 : Nat) : Int) := by
        rw [Int.tdiv_eq_ediv_of_nonneg (by omega), wrap_id (by omega) (by omega)]
        omega
      have z : ∀ y : Int, (strOfNums [y] : ByteArray).size = 1 := fun y => by rw [strOfNums_size]; rfl
      obtain ⟨t, ht⟩ := mark_loop d (n / 10) (strOfNums [(wrap64 (48 + (Int.tmod (n : Int) 10))) % 256] ++ x) (by omega) (by rw [ByteArray.size_append, z]; omega)
      refine ⟨t, Ev.step (fun k => rfl) ?_⟩
      simp only [laws_markText.l0]
      rw [e]
      exact Ev.pos (by omega) (Ev.bnd rfl (Ev.pos (by rw [z]; omega) ht))
theorem mark_text (n : Nat) (hn : n ≤ 1000000000000) : ∃ t, Ev (fun k => laws_markText.f k (n : Int)) t := by
  unfold laws_markText.f
  by_cases h0 : n = 0
  · exact ⟨_, Ev.pos (by omega) (Ev.now _)⟩
  · obtain ⟨t, ht⟩ := mark_loop (n + 1) n (⟨#[]⟩ : ByteArray) (by omega) (by show n + 0 ≤ _; omega)
    exact ⟨t, Ev.neg (by omega) ht⟩
theorem marks : ∃ T : Nat → ByteArray, ∀ n : Nat, n ≤ 1000000000000 → Ev (fun k => laws_markText.f k (n : Int)) (T n) := by
  refine ⟨fun n => if h : n ≤ 1000000000000 then Classical.choose (mark_text n h) else ByteArray.empty, fun n hn => ?_⟩
  simp only [dif_pos hn]
  exact Classical.choose_spec (mark_text n hn)
/-- A row marked, and held. -/
theorem mark_strings (l : List ByteArray) (hl : l.length ≤ 1000000000) : ∃ L : List ByteArray, Ev (fun k => laws_markStringS.f k l 1) (((l.length + 1 : Nat) : Int), L) ∧ Ev (fun k => laws_heldStringS.f k L 1) ((l.length + 1 : Nat) : Int) := by
  obtain ⟨T, hT⟩ := marks
  have M : ∀ (d i : Nat) (x : List ByteArray), i + d = l.length → x.length = l.length → (∀ j, j < i → x[j]? = some (T (j + 1))) →
      ∃ L : List ByteArray, L.length = l.length ∧ (∀ j, j < l.length → L[j]? = some (T (j + 1))) ∧ Ev (fun k => laws_markStringS.l0 k x ((i + 1 : Nat) : Int) (i : Int)) (((l.length + 1 : Nat) : Int), L) := by
    intro d
    induction d with
    | zero =>
      intro i x hi hx hj
      obtain rfl : i = l.length := by omega
      refine ⟨x, hx, hj, Ev.step (fun k => rfl) ?_⟩
      simp only [laws_markStringS.l0]
      exact Ev.neg (by omega) (Ev.now _)
    | succ d ih =>
      intro i x hi hx hj
      obtain ⟨L, h1, h2, h3⟩ := ih (i + 1) (x.set i (T (i + 1))) (by omega) (by rw [List.length_set]; exact hx) (fun j hlt => by
        by_cases e : j = i
        · subst e
          rw [List.getElem?_set_self (by omega)]
        · rw [List.getElem?_set_ne (by omega)]
          exact hj j (by omega))
      refine ⟨L, h1, h2, Ev.step (fun k => rfl) ?_⟩
      simp only [laws_markStringS.l0, Int.toNat_natCast]
      rw [wrap_succ (i := i) (n := l.length) (by omega) (by omega), wrap_succ (i := i + 1) (n := l.length + 1) (by omega) (by omega)]
      exact Ev.pos (by omega) (Ev.bind (hT (i + 1) (by omega)) (Ev.pos (by omega) h3))
  obtain ⟨L, h1, h2, h3⟩ := M l.length 0 l (by omega) rfl (fun j h => by omega)
  refine ⟨L, h3, ?_⟩
  have H : ∀ (d i : Nat), i + d = l.length → Ev (fun k => laws_heldStringS.l0 k L ((i + 1 : Nat) : Int) (i : Int)) ((l.length + 1 : Nat) : Int) := by
    intro d
    induction d with
    | zero =>
      intro i hi
      obtain rfl : i = l.length := by omega
      refine Ev.step (fun k => rfl) ?_
      simp only [laws_heldStringS.l0]
      exact Ev.neg (by omega) (Ev.now _)
    | succ d ih =>
      intro i hi
      have hrd : rdOf ByteArray.empty L (i : Int) = T (i + 1) := by
        rw [rdOf_get L i (by omega)]
        have := h2 i (by omega)
        rw [List.getElem?_eq_getElem (by omega)] at this
        exact Option.some.inj this
      refine Ev.step (fun k => rfl) ?_
      simp only [laws_heldStringS.l0]
      rw [hrd, wrap_succ (i := i) (n := l.length) (by omega) (by omega), wrap_succ (i := i + 1) (n := l.length + 1) (by omega) (by omega)]
      exact Ev.pos (by omega) (Ev.pos (by omega) (Ev.bind (hT (i + 1) (by omega)) (Ev.pos rfl (ih (i + 1) (by omega)))))
  exact H l.length 0 (by omega)
end Go.Proofs.YtmnddfiidnemiaaDoor.Q

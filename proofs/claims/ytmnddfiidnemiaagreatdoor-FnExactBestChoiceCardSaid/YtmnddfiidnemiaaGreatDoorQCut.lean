/- A text cut at a byte's first place: the reference's loop and the library's searches find one place. No condition. -/
import Derived.Test.YtmnddfiidnemiaaGreatDoorF1
import Derived.Test.YtmnddfiidnemiaaGreatDoorPl
import Derived.Lib.IndexLaws
import Derived.Lib.CutLaws
import Derived.Lib.SplitLaws
namespace Go.Proofs.YtmnddfiidnemiaaGreatDoor.Q
set_option linter.unusedVariables false
set_option linter.unusedSimpArgs false
open Go.RowKit Go.Proofs.YtmnddfiidnemiaaGreatDoor.F Go.Proofs.YtmnddfiidnemiaaGreatDoorHw Go.Proofs.YtmnddfiidnemiaaGreatDoorPl Go.Proofs.YtmnddfiidnemiaaGreatDoorW.PrintWords
theorem bt_get (s : ByteArray) (j : Nat) (c : UInt8) : j < s.size → (bt s (j : Int) = (c.toNat : Int) ↔ s.data.toList[j]? = some c) := fun h => by
  rw [← numsOf_getD', numsOf_getD]
  have h' : j < s.data.toList.length := by rw [Array.length_toList]; exact h
  rw [List.getD_eq_getElem?_getD, List.getElem?_eq_getElem h', Option.getD_some]
  constructor
  · intro e
    rw [UInt8.toNat_inj.1 (Int.ofNat_inj.1 e)]
  · intro e
    rw [Option.some.inj e]
theorem occ_one (l : List UInt8) (c : UInt8) (j : Nat) : Lib.occAt l [c] j = decide (l[j]? = some c) := by
  unfold Lib.occAt
  have h := List.head?_drop (l := l) (i := j)
  cases hd : l.drop j with
  | nil =>
    rw [hd] at h
    rw [← h]
    rfl
  | cons b t =>
    rw [hd] at h
    rw [← h]
    show (c == b && true) = _
    rw [Bool.and_true, Bool.eq_iff_iff, beq_iff_eq, decide_eq_true_iff]
    exact ⟨fun e => by rw [e]; rfl, fun e => (Option.some.inj e).symm⟩
/-- The first place of a byte, or none. -/
theorem first_place (s : ByteArray) (c : UInt8) :
    (∃ i : Nat, i < s.size ∧ bt s (i : Int) = (c.toNat : Int) ∧ (∀ j, j < i → bt s (j : Int) ≠ (c.toNat : Int)) ∧ Lib.indexB s ⟨#[c]⟩ = i ∧ Lib.indexByte s.data.toList c = i) ∨
    ((∀ j, j < s.size → bt s (j : Int) ≠ (c.toNat : Int)) ∧ Lib.indexB s ⟨#[c]⟩ = -1 ∧ Lib.indexByte s.data.toList c = -1) := by
  have hl : s.data.toList.length = s.size := by rw [Array.length_toList]; rfl
  have hge := Lib.indexByte_ge s.data.toList c
  by_cases h : Lib.indexByte s.data.toList c = -1
  · right
    have hn := fun k => Lib.indexByte_none h k
    refine ⟨fun j hj e => hn j ((bt_get s j c hj).1 e), ?_, h⟩
    show Lib.index s.data.toList [c] = -1
    exact Lib.index_none (fun j _ => by rw [occ_one]; exact decide_eq_false (hn j))
  · left
    obtain ⟨o, ho⟩ : ∃ o : Nat, Lib.indexByte s.data.toList c = o := ⟨(Lib.indexByte s.data.toList c).toNat, by omega⟩
    obtain ⟨h1, h2⟩ := Lib.indexByte_some ho
    have hlt : o < s.size := by
      have := (List.getElem?_eq_some_iff.1 h1).1
      omega
    refine ⟨o, hlt, (bt_get s o c hlt).2 h1, fun j hj e => h2 j hj ((bt_get s j c (by omega)).1 e), ?_, ho⟩
    show Lib.index s.data.toList [c] = o
    exact Lib.index_first (by omega) (by rw [occ_one]; exact decide_eq_true h1) (fun j hj => by rw [occ_one]; exact decide_eq_false (h2 j hj))
/-- A loop that goes on up to a place. -/
theorem find_loop {α : Type} (L : Nat → Int → Option α) (p : Nat) (r : α) (hend : Ev (fun k => L k (p : Int)) r) : ∀ (d i : Nat), i + d = p → (∀ j, i ≤ j → j < p → ∀ k, L (k + 1) (j : Int) = L k ((j + 1 : Nat) : Int)) → Ev (fun k => L k (i : Int)) r
  | 0, i, hi, _ => by
    obtain rfl : i = p := by omega
    exact hend
  | d + 1, i, hi, hs => Ev.step (fun k => hs i (Nat.le_refl _) (by omega) k) (find_loop L p r hend d (i + 1) (by omega) (fun j h1 h2 => hs j (by omega) h2))
theorem l1cut_hit (s : ByteArray) (c : Int) (i : Nat) (hs : s.size ≤ 9000000000000000000) (hi : i < s.size) (h1 : bt s (i : Int) = c) (h2 : ∀ j, j < i → bt s (j : Int) ≠ c) : Ev (fun k => spec_l1Cut.f k s c) (s.extract 0 i, s.extract (i + 1) s.size, true) := by
  unfold spec_l1Cut.f
  refine find_loop (fun k x => spec_l1Cut.l0 k s c x) i _ ?_ i 0 (by omega) ?_
  · refine Ev.step (fun k => rfl) ?_
    simp only [spec_l1Cut.l0]
    rw [wrap_succ hi (by omega)]
    exact Ev.pos (by omega) (Ev.pos (by omega) (Ev.pos h1 (Ev.pos (by omega) (Ev.pos (by omega) (Ev.pos (by omega) (Ev.now _))))))
  · intro j _ hj k
    show spec_l1Cut.l0 (k + 1) s c (j : Int) = _
    simp only [spec_l1Cut.l0]
    rw [if_pos (by omega), if_pos (by omega), if_neg (h2 j hj), wrap_succ (i := j) (n := s.size) (by omega) (by omega)]
theorem l1cut_miss (s : ByteArray) (c : Int) (hs : s.size ≤ 9000000000000000000) (h2 : ∀ j, j < s.size → bt s (j : Int) ≠ c) : Ev (fun k => spec_l1Cut.f k s c) (s, ⟨#[]⟩, false) := by
  unfold spec_l1Cut.f
  refine find_loop (fun k x => spec_l1Cut.l0 k s c x) s.size _ ?_ s.size 0 (by omega) ?_
  · refine Ev.step (fun k => rfl) ?_
    simp only [spec_l1Cut.l0]
    exact Ev.neg (by omega) (Ev.now _)
  · intro j _ hj k
    show spec_l1Cut.l0 (k + 1) s c (j : Int) = _
    simp only [spec_l1Cut.l0]
    rw [if_pos (by omega), if_pos (by omega), if_neg (h2 j hj), wrap_succ (i := j) (n := s.size) (by omega) (by omega)]
end Go.Proofs.YtmnddfiidnemiaaGreatDoor.Q

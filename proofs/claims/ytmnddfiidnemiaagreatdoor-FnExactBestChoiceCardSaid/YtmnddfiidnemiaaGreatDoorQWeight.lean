/- Weights: the reference's reading and the program's are one. No condition. -/
import Derived.Test.YtmnddfiidnemiaaGreatDoorF1
import Derived.Test.YtmnddfiidnemiaaGreatDoorF3
import Derived.Test.YtmnddfiidnemiaaGreatDoorQCutOne
import Derived.Test.YtmnddfiidnemiaaGreatDoorQNum
import Derived.Test.YtmnddfiidnemiaaGreatDoorQTx
namespace Go.Proofs.YtmnddfiidnemiaaGreatDoor.Q
set_option linter.unusedVariables false
set_option linter.unusedSimpArgs false
open Go.RowKit Go.Proofs.YtmnddfiidnemiaaGreatDoor.F Go.Proofs.YtmnddfiidnemiaaGreatDoorHw Go.Proofs.YtmnddfiidnemiaaGreatDoorPl Go.Proofs.YtmnddfiidnemiaaGreatDoorW.PrintWords
/-- A digit's value. -/
def isD (b : Int) : Prop := 48 ≤ b ∧ b ≤ 57
theorem digit_yes {b : Int} (h : isD b) : spec_l1Digit.f b = some true := by
  unfold spec_l1Digit.f
  rw [if_pos h.1, decide_eq_true h.2]
theorem digit_no {b : Int} (h : ¬ isD b) : spec_l1Digit.f b = some false := by
  unfold spec_l1Digit.f
  by_cases h1 : b ≥ 48
  · rw [if_pos h1, decide_eq_false (fun h2 => h ⟨h1, h2⟩)]
  · rw [if_neg h1]
theorem step_digit {s : ByteArray} {n m : Int} {i : Nat} {r : Int} (hs : s.size ≤ 5) (hi : 2 ≤ i) (hlt : i < s.size) (hd : isD (bt s (i : Int))) (hn : 0 ≤ n ∧ n ≤ 100000) (hm : 0 ≤ m ∧ m ≤ 100)
    (h : Ev (fun k => spec_l3Weight.l0 k s (n + m * (bt s (i : Int) - 48)) (m / 10) ((i + 1 : Nat) : Int)) r) : Ev (fun k => spec_l3Weight.l0 k s n m (i : Int)) r := by
  obtain ⟨h1, h2⟩ := hd
  have e0 : (bt s (i : Int) - 48) % 256 = bt s (i : Int) - 48 := by omega
  obtain ⟨v, hv⟩ : ∃ v, v = bt s (i : Int) - 48 := ⟨_, rfl⟩
  have hv9 : 0 ≤ v ∧ v ≤ 9 := by omega
  have hm9 : 0 ≤ m * v ∧ m * v ≤ 900 := ⟨Int.mul_nonneg hm.1 hv9.1, by
    have := Int.mul_le_mul hm.2 hv9.2 hv9.1 (by omega : (0 : Int) ≤ 100)
    omega⟩
  have w1 : wrap64 (m * ((bt s (i : Int) - 48) % 256)) = m * (bt s (i : Int) - 48) := by rw [e0, ← hv]; exact wrap_id (by omega) (by omega)
  have w2 : wrap64 (n + m * (bt s (i : Int) - 48)) = n + m * (bt s (i : Int) - 48) := by rw [← hv]; exact wrap_id (by omega) (by omega)
  have w3 : wrap64 (Int.tdiv m 10) = m / 10 := by rw [Int.tdiv_eq_ediv_of_nonneg hm.1]; exact wrap_id (by omega) (by omega)
  refine Ev.step (fun k => rfl) ?_
  simp only [spec_l3Weight.l0]
  rw [w1, w2, w3, wrap_succ hlt (by omega)]
  exact Ev.pos (by omega) (Ev.neg (by omega) (Ev.pos (by omega) (Ev.bnd (digit_yes ⟨h1, h2⟩) (Ev.pos rfl h))))
theorem stop_digit {s : ByteArray} {n m : Int} {i : Nat} (hs : s.size ≤ 5) (hi : 2 ≤ i) (hlt : i < s.size) (hd : ¬ isD (bt s (i : Int))) : Ev (fun k => spec_l3Weight.l0 k s n m (i : Int)) (-1) := by
  refine Ev.step (fun k => rfl) ?_
  simp only [spec_l3Weight.l0]
  exact Ev.pos (by omega) (Ev.neg (by omega) (Ev.pos (by omega) (Ev.bnd (digit_no hd) (Ev.neg Bool.false_ne_true (Ev.now _)))))
theorem end_weight {s : ByteArray} {n m : Int} : Ev (fun k => spec_l3Weight.l0 k s n m (s.size : Int)) (if n > 1000 then -1 else n) := by
  refine Ev.step (fun k => rfl) ?_
  simp only [spec_l3Weight.l0]
  refine Ev.neg (by omega) ?_
  by_cases h : n > 1000
  · exact Ev.eq (Ev.pos h (Ev.now _)) (if_pos h).symm
  · exact Ev.eq (Ev.neg h (Ev.now _)) (if_neg h).symm
theorem dot_step {s : ByteArray} {n m r : Int} (hs : s.size ≤ 5) (hlt : 1 < s.size) (hd : bt s 1 = 46) (h : Ev (fun k => spec_l3Weight.l0 k s n m 2) r) : Ev (fun k => spec_l3Weight.l0 k s n m 1) r := by
  refine Ev.step (fun k => rfl) ?_
  simp only [spec_l3Weight.l0]
  rw [show wrap64 (1 + 1) = 2 from by rw [wrap_id (by omega) (by omega)]; rfl]
  exact Ev.pos (by omega) (Ev.pos (by trivial) (Ev.pos (by omega) (Ev.pos hd h)))
theorem dot_stop {s : ByteArray} {n m : Int} (hlt : 1 < s.size) (hd : bt s 1 ≠ 46) : Ev (fun k => spec_l3Weight.l0 k s n m 1) (-1) := by
  refine Ev.step (fun k => rfl) ?_
  simp only [spec_l3Weight.l0]
  exact Ev.pos (by omega) (Ev.pos (by trivial) (Ev.pos (by omega) (Ev.neg hd (Ev.now _))))
theorem j0_bad (s : ByteArray) : Ev (fun k => spec_l3Weight.j0 k s true) (-1) := by
  refine Ev.step (fun k => rfl) ?_
  simp only [spec_l3Weight.j0]
  exact Ev.pos (by trivial) (Ev.now _)
/-- Where the front is right. -/
theorem front_good {s : ByteArray} {r : Int} (h1 : 0 < s.size) (h2 : s.size ≠ 2) (h5 : s.size ≤ 5) (h : bt s 0 = 48 ∨ bt s 0 = 49) (hr : Ev (fun k => spec_l3Weight.l0 k s (1000 * (bt s 0 - 48)) 100 1) r) : Ev (fun k => spec_l3Weight.f k s) r := by
  have J : Ev (fun k => spec_l3Weight.j0 k s (decide ((s.size : Int) > 5))) r := by
    rw [decide_eq_false (show ¬ (s.size : Int) > 5 by omega)]
    refine Ev.step (fun k => rfl) ?_
    simp only [spec_l3Weight.j0]
    rw [show (bt s 0 - 48) % 256 = bt s 0 - 48 by omega]
    exact Ev.neg (by decide) (Ev.pos (by omega) hr)
  unfold spec_l3Weight.f
  refine Ev.neg (fun e => by have := (list_of_size s).1 e; omega) (Ev.pos (by omega) ?_)
  rcases h with h | h
  · exact Ev.pos h (Ev.neg (by omega) J)
  · exact Ev.neg (by omega) (Ev.pos h (Ev.neg (by omega) J))
/-- Where it is not. -/
theorem front_bad {s : ByteArray} (h : s.size = 0 ∨ s.size = 2 ∨ 5 < s.size ∨ (bt s 0 ≠ 48 ∧ bt s 0 ≠ 49)) : Ev (fun k => spec_l3Weight.f k s) (-1) := by
  unfold spec_l3Weight.f
  by_cases h0 : s.size = 0
  · exact Ev.pos ((list_of_size s).2 h0) (j0_bad s)
  · refine Ev.neg (fun e => h0 ((list_of_size s).1 e)) (Ev.pos (by omega) ?_)
    have J : s.size ≠ 2 → (bt s 0 = 48 ∨ bt s 0 = 49) → Ev (fun k => spec_l3Weight.j0 k s (decide ((s.size : Int) > 5))) (-1) := fun g1 g2 => by
      rw [decide_eq_true (show (s.size : Int) > 5 by omega)]
      exact j0_bad s
    by_cases h2 : s.size = 2
    · by_cases a : bt s 0 = 48
      · exact Ev.pos a (Ev.pos (by omega) (j0_bad s))
      · refine Ev.neg a ?_
        by_cases b : bt s 0 = 49
        · exact Ev.pos b (Ev.pos (by omega) (j0_bad s))
        · exact Ev.neg b (j0_bad s)
    · by_cases a : bt s 0 = 48
      · exact Ev.pos a (Ev.neg (by omega) (J h2 (.inl a)))
      · refine Ev.neg a ?_
        by_cases b : bt s 0 = 49
        · exact Ev.pos b (Ev.neg (by omega) (J h2 (.inr b)))
        · exact Ev.neg b (j0_bad s)
/-- The number of a sign and three digits. -/
theorem dec_four (a b c d : UInt8) (x y z u : Nat) (ha : Lib.digitVal a = some x) (hb : Lib.digitVal b = some y) (hc : Lib.digitVal c = some z) (hd : Lib.digitVal d = some u) :
    strconv_Atoi.f (tx [a, b, c, d]) = some (((1000 * x + 100 * y + 10 * z + u : Nat) : Int), none) := by
  have h : Lib.decFrom 0 [a, b, c, d] = some (1000 * x + 100 * y + 10 * z + u) := by
    simp only [Lib.decFrom, ha, hb, hc, hd]
    congr 1
    omega
  have h2 := atoi_digits [a, b, c, d] _ (by show 4 ≤ 18; omega) (by simp) h
  unfold strconv_Atoi.f
  rw [if_pos (by rw [tx_size]; show 4 ≤ _; omega), tx_data, h2]
theorem dig_val {b : UInt8} (h : isD (b.toNat : Int)) : Lib.digitVal b = some (b.toNat - 48) := by
  obtain ⟨h1, h2⟩ := h
  unfold Lib.digitVal
  rw [if_pos ⟨by omega, by omega⟩]
theorem byte_get (l : List UInt8) (i : Nat) (c : UInt8) (h : l[i]? = some c) : bt (tx l) (i : Int) = (c.toNat : Int) := by
  have hi : i < l.length := (List.getElem?_eq_some_iff.1 h).1
  exact (bt_at_place (tx l) i c (by rw [tx_size]; exact hi)).2 (by rw [tx_data]; exact h)
theorem are_digits (l : List UInt8) (hl : l.length ≤ 9000000) : impl_areBytes_48.f (tx l) () = some (l.all fun c => decide (48 ≤ (c.toNat : Int)) && decide ((c.toNat : Int) ≤ 57)) := by
  unfold impl_areBytes_48.f
  rw [if_pos (by rw [tx_size]; omega)]
  have e : (l.all fun c => decide (48 ≤ (c.toNat : Int)) && decide ((c.toNat : Int) ≤ 57)) = (numsOf (tx l)).all (fun c => decide (48 ≤ c) && decide (c ≤ 57)) := by
    unfold numsOf
    rw [tx_data, List.all_map]
    rfl
  rw [e]
  refine allO_all (fun x hx => ?_)
  unfold impl_isDigit.f
  by_cases h : x ≥ 48
  · rw [if_pos h, decide_eq_true (show 48 ≤ x from h), Bool.true_and]
  · rw [if_neg h, decide_eq_false (show ¬ 48 ≤ x from h), Bool.false_and]
/-- The rest of the program's reading, behind its tests of the part. -/
theorem weight_end (w p : List UInt8) (q : List UInt8) (hq : (p ++ [48, 48, 48]).take 3 = q) (hw : w.length ≤ 1000) (hp : p.length ≤ 1000) (n : Int) (o : Option Int) (ha : strconv_Atoi.f (tx (w ++ q)) = some (n, o)) :
    (if (tx p).size + 3 ≤ 9223372036854775807 then (if 0 ≤ 3 then (if 3 ≤ ((tx p ++ (⟨#[48, 48, 48]⟩ : ByteArray)).size : Int) then (if (tx w).size + ((tx p ++ (⟨#[48, 48, 48]⟩ : ByteArray)).extract 0 3).size ≤ 9223372036854775807 then ((strconv_Atoi.f (tx w ++ ((tx p ++ (⟨#[48, 48, 48]⟩ : ByteArray)).extract 0 3))).bind fun b => (some (b.1, decide (b.1 ≤ 1000)))) else (none)) else (none)) else (none)) else (none) : Option (Int × Bool)) = some (n, decide (n ≤ 1000)) := by
  have e1 : (tx p ++ (⟨#[48, 48, 48]⟩ : ByteArray)).size = p.length + 3 := by rw [ByteArray.size_append, tx_size]; rfl
  have e2 : (tx p ++ (⟨#[48, 48, 48]⟩ : ByteArray)).extract 0 3 = tx q := by
    apply ByteArray.ext
    apply Array.toList_inj.1
    rw [tx_data, ← hq]
    simp [tx, ByteArray.data_extract, ByteArray.data_append]
  have e3 : tx w ++ tx q = tx (w ++ q) := by
    apply ByteArray.ext
    simp [tx, ByteArray.data_append]
  have hql : q.length ≤ 3 := by rw [← hq, List.length_take]; omega
  rw [e2, e3, ha, if_pos (by rw [tx_size]; omega), if_pos (by decide), if_pos (by rw [e1]; omega), if_pos (by rw [tx_size, tx_size]; omega)]
  rfl
theorem tx_take (l : List UInt8) (i : Nat) : (tx l).extract 0 i = tx (l.take i) := by
  apply ByteArray.ext
  apply Array.toList_inj.1
  rw [tx_data]
  simp [tx, ByteArray.data_extract]
theorem tx_drop (l : List UInt8) (i : Nat) : (tx l).extract i (tx l).size = tx (l.drop i) := by
  apply ByteArray.ext
  apply Array.toList_inj.1
  rw [tx_data, tx_size]
  simp only [tx, ByteArray.data_extract, Array.toList_extract, List.toList_toArray, List.extract_eq_take_drop]
  exact List.take_of_length_le (by rw [List.length_drop]; exact Nat.le_refl _)
theorem tx_list (l : List UInt8) : (tx l).toList = l := by rw [ByteArray.toList_eq, tx_data]
def dg (c : UInt8) : Bool := decide (48 ≤ (c.toNat : Int)) && decide ((c.toNat : Int) ≤ 57)
theorem dg_is {c : UInt8} : dg c = true ↔ isD (c.toNat : Int) := by
  unfold dg isD
  rw [Bool.and_eq_true, decide_eq_true_iff, decide_eq_true_iff]
/-- The program's reading, by its parts. -/
theorem weight_impl (L W P : List UInt8) (f : Bool) (hL : L.length ≤ 1000) (hW : W.length ≤ 1000) (hP : P.length ≤ 1000) (hc : strings_Cut.f (tx L) (⟨#[46]⟩ : ByteArray) = some (tx W, tx P, f)) (n : Int) (e : Option Int)
    (ha : W = [48] ∨ W = [49] → strconv_Atoi.f (tx (W ++ (P ++ [48, 48, 48]).take 3)) = some (n, e)) :
    impl_weightOf.f (tx L) = some (if (f = false ∨ (1 ≤ P.length ∧ P.length ≤ 3)) ∧ P.all dg = true ∧ (W = [48] ∨ W = [49]) then (n, decide (n ≤ 1000)) else (0, false)) := by
  have hd := are_digits P (by omega)
  have hw : impl_within.f ((tx P).size : Int) 1 3 = some (decide (1 ≤ (P.length : Int)) && decide ((P.length : Int) ≤ 3)) := by
    rw [tx_size]
    unfold impl_within.f
    by_cases h : 1 ≤ (P.length : Int)
    · rw [if_pos h, decide_eq_true h]; rfl
    · rw [if_neg h, decide_eq_false h]; rfl
  unfold impl_weightOf.f
  rw [hc]
  simp only [Option.bind_some]
  rw [hw, hd]
  simp only [Option.bind_some, tx_list]
  rw [show (P.all fun c => decide (48 ≤ (c.toNat : Int)) && decide ((c.toNat : Int) ≤ 57)) = P.all dg from rfl]
  have hb : (decide (1 ≤ (P.length : Int)) && decide ((P.length : Int) ≤ 3)) = decide (1 ≤ P.length ∧ P.length ≤ 3) := by
    rw [Bool.eq_iff_iff, Bool.and_eq_true, decide_eq_true_iff, decide_eq_true_iff, decide_eq_true_iff]
    omega
  rw [hb]
  have M := fun hh : W = [48] ∨ W = [49] => weight_end W P _ rfl hW hP n e (ha hh)
  generalize (if (tx P).size + 3 ≤ 9223372036854775807 then (if 0 ≤ 3 then (if 3 ≤ ((tx P ++ (⟨#[48, 48, 48]⟩ : ByteArray)).size : Int) then (if (tx W).size + ((tx P ++ (⟨#[48, 48, 48]⟩ : ByteArray)).extract 0 3).size ≤ 9223372036854775807 then ((strconv_Atoi.f (tx W ++ ((tx P ++ (⟨#[48, 48, 48]⟩ : ByteArray)).extract 0 3))).bind fun b => (some (b.1, decide (b.1 ≤ 1000)))) else (none)) else (none)) else (none)) else (none) : Option (Int × Bool)) = K at M ⊢
  have hk : (if W = [48] then K else if W = [49] then K else some (0, false)) = some (if W = [48] ∨ W = [49] then (n, decide (n ≤ 1000)) else (0, false)) := by
    by_cases a : W = [48] ∨ W = [49]
    · rw [if_pos a, M a]
      by_cases b : W = [48]
      · rw [if_pos b]
      · rw [if_neg b, if_pos (a.resolve_left b)]
    · rw [if_neg a, if_neg (fun h => a (.inl h)), if_neg (fun h => a (.inr h))]
  rw [hk]
  by_cases a : W = [48] ∨ W = [49]
  · simp only [a, if_true, and_true]
    cases P.all dg <;> cases f <;> by_cases h2 : 1 ≤ P.length ∧ P.length ≤ 3 <;> simp [h2]
  · simp only [a, if_false, and_false]
    cases P.all dg <;> cases f <;> by_cases h2 : 1 ≤ P.length ∧ P.length ≤ 3 <;> simp [h2]
end Go.Proofs.YtmnddfiidnemiaaGreatDoor.Q

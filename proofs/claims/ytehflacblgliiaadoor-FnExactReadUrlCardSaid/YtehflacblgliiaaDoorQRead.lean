/- Addresses read: the reference and the program read alike. No condition. -/
import Derived.Test.YtehflacblgliiaaDoorF2
import Derived.Test.YtehflacblgliiaaDoorF3
import Derived.Test.YtehflacblgliiaaDoorF4
import Derived.Test.YtehflacblgliiaaDoorQNum
import Derived.Test.YtehflacblgliiaaDoorQCut
import Derived.Test.YtehflacblgliiaaDoorQGood
namespace Go.Proofs.YtehflacblgliiaaDoor.Q
set_option linter.unusedVariables false
set_option linter.unusedSimpArgs false
open Go.RowKit Go.Proofs.YtehflacblgliiaaDoor.F Go.Proofs.YtehflacblgliiaaDoorHw Go.Proofs.YtehflacblgliiaaDoorPl Go.Proofs.YtehflacblgliiaaDoorW.PrintWords
def intOf : Option Nat → Int
  | some n => (n : Int)
  | none => -1
theorem drop_byte (s : ByteArray) (i : Nat) (h : i < s.size) : ∃ b : UInt8, s.data.toList.drop i = b :: s.data.toList.drop (i + 1) ∧ bt s (i : Int) = (b.toNat : Int) := by
  have h' : i < s.data.toList.length := by rw [Array.length_toList]; exact h
  refine ⟨s.data.toList[i], List.drop_eq_getElem_cons h', ?_⟩
  exact (bt_get s i _ h).2 (List.getElem?_eq_getElem h')
theorem int_loop (s : ByteArray) (hs : s.size ≤ 9) : ∀ (d i acc : Nat), i + d = s.size → acc < 10 ^ i → Ev (fun k => spec_l1Int.l0 k s (acc : Int) (i : Int)) (intOf (Lib.decFrom acc (s.data.toList.drop i)))
  | 0, i, acc, hi, _ => by
    have hl : s.data.toList.length = s.size := Array.length_toList
    rw [List.drop_eq_nil_of_le (by omega)]
    refine Ev.step (fun k => rfl) ?_
    simp only [spec_l1Int.l0]
    exact Ev.neg (by omega) (Ev.now _)
  | d + 1, i, acc, hi, ha => by
    obtain ⟨b, hb, hbt⟩ := drop_byte s i (by omega)
    have hp : (10 : Nat) ^ i ≤ 100000000 := by
      have : i ≤ 8 := by omega
      calc (10 : Nat) ^ i ≤ 10 ^ 8 := Nat.pow_le_pow_right (by omega) this
        _ = 100000000 := by decide
    rw [hb]
    refine Ev.step (fun k => rfl) ?_
    simp only [spec_l1Int.l0]
    rw [hbt]
    refine Ev.pos (by omega) (Ev.pos (by omega) ?_)
    simp only [Lib.decFrom]
    by_cases h1 : (b.toNat : Int) < 48
    · have : Lib.digitVal b = none := by unfold Lib.digitVal; rw [if_neg (by omega)]
      rw [this]
      exact Ev.pos h1 (Ev.now _)
    · refine Ev.neg h1 ?_
      by_cases h2 : (b.toNat : Int) > 57
      · have : Lib.digitVal b = none := by unfold Lib.digitVal; rw [if_neg (by omega)]
        rw [this]
        exact Ev.pos h2 (Ev.now _)
      · have : Lib.digitVal b = some (b.toNat - 48) := by unfold Lib.digitVal; rw [if_pos (by omega)]
        rw [this]
        refine Ev.neg h2 ?_
        rw [show ((b.toNat : Int) - 48) % 256 = ((b.toNat - 48 : Nat) : Int) by omega, wrap_id (x := 10 * (acc : Int)) (by omega) (by omega), wrap_id (x := 10 * (acc : Int) + ((b.toNat - 48 : Nat) : Int)) (by omega) (by omega), wrap_succ (i := i) (n := s.size) (by omega) (by omega)]
        have e : 10 * (acc : Int) + ((b.toNat - 48 : Nat) : Int) = ((acc * 10 + (b.toNat - 48) : Nat) : Int) := by omega
        rw [e]
        exact int_loop s hs d (i + 1) (acc * 10 + (b.toNat - 48)) (by omega) (by rw [Nat.pow_succ]; omega)
/-- A port's digits. -/
theorem port_eq (p : ByteArray) (hp : p.size ≤ 1048576) : ∃ v : Int, Ev (fun k => spec_l1Int.f k p) v ∧
    ((0 < v ∧ v ≤ 999999999 ∧ impl_number.f p = some (v, true)) ∨ (v ≤ 0 ∧ ∃ (n : Int) (ok : Bool), impl_number.f p = some (n, ok) ∧ (ok = true → n = 0 ∨ 65535 < n))) := by
  have hl : p.data.toList.length = p.size := Array.length_toList
  -- what the program answers, always something
  have NUM : ∃ (n : Int) (ok : Bool), impl_number.f p = some (n, ok) ∧ (ok = true → 0 ≤ n ∧ Lib.decDigits n.toNat = p.data.toList ∧ Lib.atoiAll p.data.toList = .ok n) := by
    unfold impl_number.f
    rw [if_pos (by omega)]
    cases h : Lib.atoiAll p.data.toList with
    | ok v =>
      have hb := Lib.atoiAll_bounds h
      simp only
      rw [if_pos hb]
      refine ⟨_, _, rfl, fun ho => ?_⟩
      rw [Bool.and_eq_true, decide_eq_true_iff, decide_eq_true_iff] at ho
      refine ⟨ho.2, ?_, rfl⟩
      rw [← ho.1]
      unfold Lib.itoa
      rw [if_neg (by omega)]
    | «syntax» => exact ⟨_, _, rfl, fun h => by cases h⟩
    | range => exact ⟨_, _, rfl, fun h => by cases h⟩
  obtain ⟨n, ok, hn, hok⟩ := NUM
  unfold spec_l1Int.f
  have JT : Ev (fun k => spec_l1Int.j0 k p true) (-1) := Ev.step (fun k => by simp only [spec_l1Int.j0]; rfl) (Ev.now _)
  by_cases hsz : 1 ≤ p.size ∧ p.size ≤ 9
  · have hin : spec_l1In.f (p.size : Int) 1 9 = some true := by rw [in_eq, decide_eq_true (show (1 : Int) ≤ (p.size : Int) by omega), decide_eq_true (show (p.size : Int) ≤ 9 by omega)]; rfl
    have h48 : bt p 0 = 48 ↔ p.data.toList[0]? = some 48 := bt_get p 0 48 (by omega)
    by_cases hz : bt p 0 = 48 ∧ p.size > 1
    · refine ⟨-1, Ev.bnd hin (Ev.pos rfl (Ev.pos (by omega) (Ev.pos hz.1 ?_))), .inr ⟨by omega, n, ok, hn, fun ho => ?_⟩⟩
      · rw [decide_eq_true (show (p.size : Int) > 1 by omega)]; exact JT
      · obtain ⟨_, h2, _⟩ := hok ho
        have hc := (dec_canon n.toNat).2
        rw [h2] at hc
        have := hc (h48.1 hz.1)
        omega
    · have L := int_loop p hsz.2 p.size 0 0 (by omega) (by decide)
      rw [List.drop_zero] at L
      have JF : ∀ q, Ev (fun k => spec_l1Int.l0 k p 0 0) q → Ev (fun k => spec_l1Int.j0 k p false) q := fun q hq => by
        refine Ev.step (fun k => rfl) ?_
        simp only [spec_l1Int.j0]
        exact Ev.neg (by decide) hq
      have S : Ev (fun k => (spec_l1In.f (p.size : Int) 1 9).bind fun t241 => (if t241 = true then (if 0 < (p.size : Int) then (if (bt p 0) = 48 then (spec_l1Int.j0 k p (decide ((p.size : Int) > 1))) else (spec_l1Int.j0 k p false)) else (none)) else (spec_l1Int.j0 k p true))) (intOf (Lib.decFrom 0 p.data.toList)) := by
        refine Ev.bnd hin (Ev.pos rfl (Ev.pos (by omega) ?_))
        by_cases h : bt p 0 = 48
        · refine Ev.pos h ?_
          rw [decide_eq_false (show ¬ (p.size : Int) > 1 from fun h2 => hz ⟨h, by omega⟩)]
          exact JF _ L
        · exact Ev.neg h (JF _ L)
      have hcan : Canon p.data.toList := by
        refine ⟨fun e => ?_, fun e => ?_⟩
        · rw [e] at hl
          have : ([] : List UInt8).length = 0 := rfl
          omega
        · have := h48.2 e
          rcases Nat.lt_or_ge 1 p.size with h | h
          · exact absurd ⟨this, h⟩ hz
          · omega
      refine ⟨_, S, ?_⟩
      cases hd : Lib.decFrom 0 p.data.toList with
      | none =>
        refine .inr ⟨by decide, n, ok, hn, fun ho => ?_⟩
        obtain ⟨_, h2, _⟩ := hok ho
        rw [← h2, dec_back (n.toNat + 1) n.toNat (by omega)] at hd
        cases hd
      | some m =>
        have hm : m < (0 + 1) * 10 ^ p.data.toList.length := Lib.decFrom_lt _ _ _ hd
        have hm9 : m ≤ 999999999 := by
          have : (10 : Nat) ^ p.data.toList.length ≤ 10 ^ 9 := Nat.pow_le_pow_right (by omega) (by omega)
          have e9 : (10 : Nat) ^ 9 = 1000000000 := by decide
          omega
        have hat := atoi_digits p.data.toList m (by omega) hcan.1 hd
        have hit : Lib.itoa (m : Int) = p.data.toList := by
          unfold Lib.itoa
          rw [if_neg (by omega), Int.toNat_natCast]
          exact canon_back _ _ _ (Nat.lt_succ_self _) hcan hd
        have hnum : impl_number.f p = some ((m : Int), true) := by
          unfold impl_number.f
          rw [if_pos (by omega), hat]
          simp only
          rw [if_pos (by omega), decide_eq_true hit, decide_eq_true (show (0 : Int) ≤ (m : Int) by omega)]
          rfl
        show 0 < (m : Int) ∧ _ ∨ _
        by_cases h0 : m = 0
        · exact .inr ⟨by show (m : Int) ≤ 0; omega, _, _, hnum, fun _ => .inl (by omega)⟩
        · exact .inl ⟨by omega, by show (m : Int) ≤ _; omega, hnum⟩
  · have hin : spec_l1In.f (p.size : Int) 1 9 = some false := by
      rw [in_eq]
      congr 1
      rw [Bool.and_eq_false_iff, decide_eq_false_iff_not, decide_eq_false_iff_not]
      omega
    refine ⟨-1, Ev.bnd hin (Ev.neg (by decide) JT), .inr ⟨by omega, n, ok, hn, fun ho => ?_⟩⟩
    obtain ⟨h0, h2, _⟩ := hok ho
    have hlen := congrArg List.length h2
    by_cases hbig : n < 1000000000
    · have h9 := dec_len9 n.toNat (by omega)
      have h1 : 1 ≤ (Lib.decDigits n.toNat).length := List.length_pos_iff.2 (dec_ne _)
      omega
    · exact .inr (by omega)
end Go.Proofs.YtehflacblgliiaaDoor.Q

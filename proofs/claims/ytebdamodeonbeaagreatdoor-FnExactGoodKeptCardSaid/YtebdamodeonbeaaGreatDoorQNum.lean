/- Decimal numbers: digits read and written, there and back. No condition. -/
import Derived.Lib.AtoiTie
import Derived.Lib.ItoaLen
import Derived.Test.YtebdamodeonbeaaGreatDoorPl
namespace Go.Proofs.YtebdamodeonbeaaGreatDoor.Q
set_option linter.unusedVariables false
set_option linter.unusedSimpArgs false
open Go.RowKit Go.Proofs.YtebdamodeonbeaaGreatDoorHw Go.Proofs.YtebdamodeonbeaaGreatDoorPl Go.Proofs.YtebdamodeonbeaaGreatDoorW.PrintWords
theorem decFrom_snoc : ∀ (l : List UInt8) (acc : Nat) (c : UInt8), Lib.decFrom acc (l ++ [c]) = (Lib.decFrom acc l).bind fun n => (Lib.digitVal c).map fun d => n * 10 + d
  | [], acc, c => by
    simp only [List.nil_append, Lib.decFrom, Option.bind_some]
    cases Lib.digitVal c <;> rfl
  | b :: r, acc, c => by
    simp only [List.cons_append, Lib.decFrom]
    cases Lib.digitVal b with
    | none => rfl
    | some d => exact decFrom_snoc r (acc * 10 + d) c
theorem decFrom_ge : ∀ (l : List UInt8) (acc n : Nat), Lib.decFrom acc l = some n → acc ≤ n
  | [], acc, n, h => by
    simp only [Lib.decFrom, Option.some.injEq] at h
    omega
  | b :: r, acc, n, h => by
    simp only [Lib.decFrom] at h
    cases hb : Lib.digitVal b with
    | none => rw [hb] at h; cases h
    | some d =>
      rw [hb] at h
      have := decFrom_ge r (acc * 10 + d) n h
      omega
theorem digit_of (d : Nat) (h : d < 10) : Lib.digitVal (UInt8.ofNat (48 + d)) = some d := by
  have h2 : (UInt8.ofNat (48 + d)).toNat = 48 + d := by rw [UInt8.toNat_ofNat']; omega
  unfold Lib.digitVal
  rw [h2, if_pos (by omega)]
  congr 1
  omega
theorem of_digit (c : UInt8) (d : Nat) (h : Lib.digitVal c = some d) : c = UInt8.ofNat (48 + d) ∧ d < 10 ∧ c.toNat = 48 + d := by
  obtain ⟨h1, h2, h3⟩ := Lib.digitVal_eq h
  refine ⟨UInt8.toNat_inj.1 ?_, by omega, by omega⟩
  rw [UInt8.toNat_ofNat']
  omega
theorem dec_big (u : Nat) (h : ¬ u < 10) : Lib.decDigits u = Lib.decDigits (u / 10) ++ [UInt8.ofNat (48 + u % 10)] := by
  rw [Lib.decDigits, dif_neg h]
theorem dec_ne (u : Nat) : Lib.decDigits u ≠ [] := by
  by_cases h : u < 10
  · rw [Lib.decDigits_one h]; simp
  · rw [dec_big u h]; simp
/-- What is written is read back. -/
theorem dec_back : ∀ (k u : Nat), u < k → Lib.decFrom 0 (Lib.decDigits u) = some u
  | 0, u, h => by omega
  | k + 1, u, h => by
    by_cases h10 : u < 10
    · rw [Lib.decDigits_one h10]
      simp only [Lib.decFrom, digit_of u h10]
      congr 1
      omega
    · rw [dec_big u h10, decFrom_snoc, dec_back k (u / 10) (by omega)]
      simp only [Option.bind_some, digit_of (u % 10) (by omega), Option.map_some]
      congr 1
      omega
theorem dec_head : ∀ (k u : Nat), u < k → 1 ≤ u → (Lib.decDigits u)[0]? ≠ some 48
  | 0, u, h, _ => by omega
  | k + 1, u, h, h1 => by
    by_cases h10 : u < 10
    · rw [Lib.decDigits_one h10]
      simp only [List.getElem?_cons_zero, ne_eq, Option.some.injEq]
      intro e
      have := congrArg UInt8.toNat e
      rw [UInt8.toNat_ofNat'] at this
      have e48 : (48 : UInt8).toNat = 48 := rfl
      omega
    · have := dec_head k (u / 10) (by omega) (by omega)
      rw [dec_big u h10, List.getElem?_append_left (List.length_pos_iff.2 (dec_ne _))]
      exact this
/-- Digits without needless noughts. -/
def Canon (l : List UInt8) : Prop := l ≠ [] ∧ (l[0]? = some 48 → l.length = 1)
theorem dec_canon (u : Nat) : Canon (Lib.decDigits u) := by
  refine ⟨dec_ne u, fun h => ?_⟩
  by_cases h0 : u = 0
  · subst h0
    rw [Lib.decDigits_one (by omega)]
    rfl
  · exact absurd h (dec_head (u + 1) u (by omega) (by omega))
/-- What is read is written back. -/
theorem canon_back : ∀ (k : Nat) (l : List UInt8) (n : Nat), l.length < k → Canon l → Lib.decFrom 0 l = some n → Lib.decDigits n = l
  | 0, l, n, h, _, _ => by omega
  | k + 1, l, n, h, hc, hd => by
    obtain ⟨hne, hz⟩ := hc
    obtain ⟨init, c, rfl⟩ : ∃ init c, l = init ++ [c] := ⟨l.dropLast, l.getLast hne, (List.dropLast_concat_getLast hne).symm⟩
    rw [decFrom_snoc] at hd
    obtain ⟨m, hm, hd⟩ := Option.bind_eq_some_iff.1 hd
    obtain ⟨d, hd1, rfl⟩ := Option.map_eq_some_iff.1 hd
    obtain ⟨hc1, hc2, _⟩ := of_digit c d hd1
    by_cases hi : init = []
    · subst hi
      simp only [Lib.decFrom, Option.some.injEq] at hm
      subst hm
      rw [show 0 * 10 + d = d by omega, Lib.decDigits_one hc2, ← hc1]
      rfl
    · have hlen : 1 ≤ init.length := List.length_pos_iff.2 hi
      have h0 : (init ++ [c])[0]? = init[0]? := List.getElem?_append_left hlen
      have hn48 : init[0]? ≠ some 48 := fun e => by
        have := hz (h0.trans e)
        simp only [List.length_append, List.length_cons, List.length_nil] at this
        omega
      have ih := canon_back k init m (by simp only [List.length_append, List.length_cons, List.length_nil] at h; omega) ⟨hi, fun e => absurd e hn48⟩ hm
      have hm1 : 1 ≤ m := by
        match init, hi, hn48, hm with
        | b :: r, _, hb, hm =>
          simp only [Lib.decFrom] at hm
          cases hv : Lib.digitVal b with
          | none => rw [hv] at hm; cases hm
          | some e =>
            rw [hv] at hm
            have := decFrom_ge r _ m hm
            obtain ⟨e1, _, _⟩ := of_digit b e hv
            by_cases he : e = 0
            · subst he
              exact absurd (by rw [e1]; rfl) hb
            · omega
      rw [dec_big (m * 10 + d) (by omega), show (m * 10 + d) / 10 = m by omega, show (m * 10 + d) % 10 = d by omega, ih, ← hc1]
theorem dec_len9 (u : Nat) (h : u < 1000000000) : (Lib.decDigits u).length ≤ 9 := by
  rw [Lib.decDigits_length]
  rcases Nat.lt_or_ge u 10 with h1 | h1
  · rw [Lib.nDigits_small h1]; omega
  rcases Nat.lt_or_ge u 100 with h2 | h2
  · rw [Lib.nDigits_unique 1 u (by omega) (by omega)]; omega
  rcases Nat.lt_or_ge u 1000 with h3 | h3
  · rw [Lib.nDigits_unique 2 u (by omega) (by omega)]; omega
  rcases Nat.lt_or_ge u 10000 with h4 | h4
  · rw [Lib.nDigits_unique 3 u (by omega) (by omega)]; omega
  rcases Nat.lt_or_ge u 100000 with h5 | h5
  · rw [Lib.nDigits_unique 4 u (by omega) (by omega)]; omega
  rcases Nat.lt_or_ge u 1000000 with h6 | h6
  · rw [Lib.nDigits_unique 5 u (by omega) (by omega)]; omega
  rcases Nat.lt_or_ge u 10000000 with h7 | h7
  · rw [Lib.nDigits_unique 6 u (by omega) (by omega)]; omega
  rcases Nat.lt_or_ge u 100000000 with h8 | h8
  · rw [Lib.nDigits_unique 7 u (by omega) (by omega)]; omega
  · rw [Lib.nDigits_unique 8 u (by omega) (by omega)]; omega
/-- Up to eighteen digits: what Atoi answers. -/
theorem atoi_digits (l : List UInt8) (n : Nat) (hl : l.length ≤ 18) (hne : l ≠ []) (h : Lib.decFrom 0 l = some n) : Lib.atoiAll l = .ok (n : Int) := by
  rw [Lib.atoiAll_short l hl]
  cases l with
  | nil => exact absurd rfl hne
  | cons b r =>
    have hv : ∃ d, Lib.digitVal b = some d := by
      simp only [Lib.decFrom] at h
      cases hv : Lib.digitVal b with
      | none => rw [hv] at h; cases h
      | some d => exact ⟨d, rfl⟩
    obtain ⟨d, hv⟩ := hv
    obtain ⟨_, _, h3⟩ := of_digit b d hv
    have h45 : (b == 45) = false := beq_eq_false_iff_ne.mpr (fun e => by rw [e] at h3; have : (45 : UInt8).toNat = 45 := rfl; omega)
    have h43 : (b == 43) = false := beq_eq_false_iff_ne.mpr (fun e => by rw [e] at h3; have : (43 : UInt8).toNat = 43 := rfl; omega)
    have hn : Lib.decNat (b :: r) = some n := by
      unfold Lib.decNat
      exact h
    simp only [Lib.atoi, h45, h43, hn]
    rfl
end Go.Proofs.YtebdamodeonbeaaGreatDoor.Q

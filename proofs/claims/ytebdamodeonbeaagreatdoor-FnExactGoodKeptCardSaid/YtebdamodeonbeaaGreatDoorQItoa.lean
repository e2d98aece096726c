/- A number's text: the reference's recursion and the library's digits are one. No condition. -/
import Derived.Test.YtebdamodeonbeaaGreatDoorF2
import Derived.Test.YtebdamodeonbeaaGreatDoorPl
import Derived.Lib.ItoaLen
namespace Go.Proofs.YtebdamodeonbeaaGreatDoor.Q
set_option linter.unusedVariables false
set_option linter.unusedSimpArgs false
open Go.RowKit Go.Proofs.YtebdamodeonbeaaGreatDoor.F Go.Proofs.YtebdamodeonbeaaGreatDoorHw Go.Proofs.YtebdamodeonbeaaGreatDoorPl Go.Proofs.YtebdamodeonbeaaGreatDoorW.PrintWords
/-- A number's text. -/
theorem num_eq : ∀ (d n : Nat), n < d → n ≤ 9223372036854775807 → Ev (fun k => spec_l1Num.f k (n : Int)) (⟨(Lib.itoa (n : Int)).toArray⟩ : ByteArray)
  | 0, n, h, _ => by omega
  | d + 1, n, h, hn => by
    have hI : Lib.itoa (n : Int) = Lib.decDigits n := by unfold Lib.itoa; rw [if_neg (by omega), Int.toNat_natCast]
    rw [hI]
    refine Ev.step (fun k => rfl) ?_
    simp only [spec_l1Num.f]
    by_cases h10 : n < 10
    · refine Ev.pos (by omega) (Ev.eq (Ev.now _) ?_)
      rw [Lib.decDigits_one h10, wrap_id (by omega) (by omega)]
      unfold strOfNums
      simp only [List.map_cons, List.map_nil]
      congr 2
      rw [show ((48 + (n : Int)) % 256).toNat = 48 + n by omega]
    · have e1 : Int.tdiv (n : Int) 10 = ((n / 10 : Nat) : Int) := by rw [Int.tdiv_eq_ediv_of_nonneg (by omega)]; omega
      have e2 : Int.tmod (n : Int) 10 = ((n % 10 : Nat) : Int) := by rw [Int.tmod_eq_emod_of_nonneg (by omega)]; omega
      have ih := num_eq d (n / 10) (by omega) (by omega)
      have hI2 : Lib.itoa ((n / 10 : Nat) : Int) = Lib.decDigits (n / 10) := by unfold Lib.itoa; rw [if_neg (by omega), Int.toNat_natCast]
      rw [hI2] at ih
      refine Ev.neg (by omega) ?_
      rw [e1, e2, wrap_id (x := ((n / 10 : Nat) : Int)) (by omega) (by omega), wrap_id (x := 48 + ((n % 10 : Nat) : Int)) (by omega) (by omega)]
      refine Ev.bind ih (Ev.bnd rfl ?_)
      have hl : (Lib.decDigits (n / 10)).length ≤ 21 := by
        have := Lib.itoa_length_le ((n / 10 : Nat) : Int) (by omega) (by omega)
        rw [hI2] at this; exact this
      have hd : Lib.decDigits n = Lib.decDigits (n / 10) ++ [UInt8.ofNat (48 + n % 10)] := by
        rw [Lib.decDigits, dif_neg h10]
      have hone : strOfNums [(48 + ((n % 10 : Nat) : Int)) % 256] = (⟨#[UInt8.ofNat (48 + n % 10)]⟩ : ByteArray) := by
        unfold strOfNums
        simp only [List.map_cons, List.map_nil]
        rw [show ((48 + ((n % 10 : Nat) : Int)) % 256).toNat = 48 + n % 10 by omega]
      rw [hone]
      refine Ev.pos ?_ (Ev.eq (Ev.now _) ?_)
      · show (Lib.decDigits (n / 10)).toArray.size + 1 ≤ _
        rw [List.size_toArray]; omega
      · rw [hd]
        apply ByteArray.ext
        simp [ByteArray.data_append]
end Go.Proofs.YtebdamodeonbeaaGreatDoor.Q

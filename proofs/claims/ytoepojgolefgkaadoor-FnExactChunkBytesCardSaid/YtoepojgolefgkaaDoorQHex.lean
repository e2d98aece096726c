/- A number's hexadecimal digits: the reference's loop and the library's are one. No condition. -/
import Derived.Test.YtoepojgolefgkaaDoorF1
import Derived.Test.YtoepojgolefgkaaDoorPl
namespace Go.Proofs.YtoepojgolefgkaaDoor.Q
set_option linter.unusedVariables false
set_option linter.unusedSimpArgs false
open Go.RowKit Go.Proofs.YtoepojgolefgkaaDoor.F Go.Proofs.YtoepojgolefgkaaDoorHw Go.Proofs.YtoepojgolefgkaaDoorPl Go.Proofs.YtoepojgolefgkaaDoorW.PrintWords
abbrev Tx : ByteArray := ⟨#[48, 49, 50, 51, 52, 53, 54, 55, 56, 57, 65, 66, 67, 68, 69, 70]⟩
theorem low_digits : ∀ d : Fin 16, lowI (bt Tx ((d.val : Nat) : Int)) = hx d.val := by decide
theorem low_one (d : Nat) (hd : d < 16) : spec_l1Lower.f (Tx.extract d (d + 1)) = some (strOfNums [hx d]) := by
  rw [extract_one Tx d hd]
  unfold spec_l1Lower.f
  have e : numsOf (strOfNums [bt Tx (d : Int)]) = [bt Tx (d : Int)] := by
    obtain ⟨b, hb⟩ := bt_byte Tx (d : Int)
    rw [hb]; unfold numsOf strOfNums
    have : ((b.val : Int).toNat) = b.val := by simp
    have hb2 := b.isLt
    simp [this]
  rw [e, if_pos (by rw [strOfNums_size]; show 1 ≤ 140737488351232; omega)]
  simp only [List.map_cons, List.map_nil]
  rw [low_digits ⟨d, hd⟩]
theorem one_size (y : Int) : (strOfNums [y] : ByteArray).size = 1 := by rw [strOfNums_size]; rfl
theorem hex_stop {n : Nat} {x : ByteArray} (h : n < 16) (hs : x.size ≤ 100) : Ev (fun k => spec_l5Hex.l0 k (n : Int) x) (strOfNums [hx n] ++ x) := by
  refine Ev.step (fun k => rfl) ?_
  simp only [spec_l5Hex.l0]
  have e1 : Int.tmod (n : Int) 16 = (n : Int) := by rw [Int.tmod_eq_emod_of_nonneg (by omega)]; omega
  have e2 : wrap64 (Int.tdiv (n : Int) 16) = 0 := by rw [Int.tdiv_eq_ediv_of_nonneg (by omega), wrap_id (by omega) (by omega)]; omega
  have e3 : wrap64 ((n : Int) + 1) = ((n + 1 : Nat) : Int) := by rw [wrap_id (by omega) (by omega)]; omega
  rw [e1, e2, e3, Int.toNat_natCast, Int.toNat_natCast]
  exact Ev.pos (by omega) (Ev.pos (by omega) (Ev.pos (by omega) (Ev.bnd (low_one n h) (Ev.pos (by rw [one_size]; omega) (Ev.pos rfl (Ev.now _))))))
theorem hex_more {n : Nat} {x r : ByteArray} (h : ¬ n < 16) (hn : n ≤ 65535) (hs : x.size ≤ 100) (hr : Ev (fun k => spec_l5Hex.l0 k ((n / 16 : Nat) : Int) (strOfNums [hx (n % 16)] ++ x)) r) : Ev (fun k => spec_l5Hex.l0 k (n : Int) x) r := by
  refine Ev.step (fun k => rfl) ?_
  simp only [spec_l5Hex.l0]
  have e1 : Int.tmod (n : Int) 16 = ((n % 16 : Nat) : Int) := by rw [Int.tmod_eq_emod_of_nonneg (by omega)]; omega
  have e2 : wrap64 (Int.tdiv (n : Int) 16) = ((n / 16 : Nat) : Int) := by rw [Int.tdiv_eq_ediv_of_nonneg (by omega), wrap_id (by omega) (by omega)]; omega
  have e3 : wrap64 (((n % 16 : Nat) : Int) + 1) = ((n % 16 + 1 : Nat) : Int) := by rw [wrap_id (by omega) (by omega)]; omega
  rw [e1, e2, e3, Int.toNat_natCast, Int.toNat_natCast]
  exact Ev.pos (by omega) (Ev.pos (by omega) (Ev.pos (by omega) (Ev.bnd (low_one (n % 16) (by omega)) (Ev.pos (by rw [one_size]; omega) (Ev.neg (by omega) hr)))))
theorem hexL_size (c n : Nat) : (hexL c n).size = c + 1 := by
  unfold hexL
  rw [strOfNums_size, List.length_map, List.length_range]
theorem hexL_append (c n : Nat) (x : ByteArray) : hexL (c + 1) n ++ x = hexL c (n / 16) ++ (strOfNums [hx (n % 16)] ++ x) := by
  rw [← ByteArray.append_assoc]
  congr 1
  unfold hexL
  rw [← strOfNums_append, List.range_succ (n := c + 1), List.map_append]
  congr 2
  · apply List.map_congr_left
    intro j hj
    have hj2 : j < c + 1 := List.mem_range.1 hj
    rw [Nat.div_div_eq_div_mul, show c + 1 - j = (c - j) + 1 by omega, Nat.pow_succ, Nat.mul_comm]
  · simp
theorem hexL_zero (n : Nat) (h : n < 16) : hexL 0 n = strOfNums [hx n] := by
  unfold hexL
  show strOfNums [hx (n / 16 ^ (0 - 0) % 16)] = _
  rw [Nat.sub_zero, Nat.pow_zero, Nat.div_one, Nat.mod_eq_of_lt h]
theorem hexC_lt {n : Nat} : hexC n ≤ 3 := by
  unfold hexC; split <;> try split <;> try split <;> omega
  all_goals omega
theorem hex_all : ∀ (c n : Nat) (x : ByteArray), c ≤ 3 → n < 16 ^ (c + 1) → (c = 0 ∨ 16 ^ c ≤ n) → x.size + c ≤ 100 → Ev (fun k => spec_l5Hex.l0 k (n : Int) x) (hexL c n ++ x)
  | 0, n, x, _, h, _, hs => by
    rw [hexL_zero n (by omega)]
    exact hex_stop (by omega) (by omega)
  | c + 1, n, x, hc, h, hl, hs => by
    have hp : 16 ^ (c + 1) = 16 ^ c * 16 := Nat.pow_succ 16 c
    have hp2 : 16 ^ (c + 1 + 1) = 16 ^ (c + 1) * 16 := Nat.pow_succ 16 (c + 1)
    have hpos : 0 < 16 ^ c := Nat.pow_pos (by decide)
    have h4 : 16 ^ (c + 1 + 1) ≤ 16 ^ 4 := Nat.pow_le_pow_right (by decide) (by omega)
    have hge : 16 ^ (c + 1) ≤ n := by rcases hl with h | h; omega; exact h
    rw [hexL_append]
    refine hex_more (by omega) (by omega) (by omega) (hex_all c (n / 16) _ (by omega) ?_ (Or.inr ?_) ?_)
    · exact (Nat.div_lt_iff_lt_mul (by decide)).2 (by omega)
    · exact (Nat.le_div_iff_mul_le (by decide)).2 (by omega)
    · rw [ByteArray.size_append, one_size]; omega
/-- The hexadecimal text of a number up to 65535. -/
def hexOf (n : Nat) : ByteArray := hexL (hexC n) n
theorem hexOf_size (n : Nat) : (hexOf n).size ≤ 4 := by
  have := @hexC_lt n
  unfold hexOf; rw [hexL_size]; omega
theorem hex_spec (n : Nat) (hn : n ≤ 65535) : Ev (fun k => spec_l5Hex.f k (n : Int)) (hexOf n) := by
  unfold spec_l5Hex.f hexOf
  have h := hex_all (hexC n) n (⟨#[]⟩ : ByteArray) hexC_lt (by unfold hexC; split; omega; split; omega; split <;> omega) (by unfold hexC; split; omega; split; omega; split <;> omega) (by have := @hexC_lt n; show 0 + _ ≤ _; omega)
  refine Ev.eq h ?_
  show _ ++ ByteArray.empty = _
  rw [ByteArray.append_empty]
theorem hex_impl (n : Nat) (hn : n ≤ 65535) : impl_hexText.f (n : Int) = some (hexOf n) := by
  unfold impl_hexText.f strconv_FormatInt.f hexOf
  rw [if_pos ⟨rfl, by omega, by omega⟩, Int.toNat_natCast]
  rfl
end Go.Proofs.YtoepojgolefgkaaDoor.Q

-- Written by a program of this claim's author (a driver over the kit's print). Lean checks it.
import Derived.Test.YtehflacblgliiaaDoorF0
import Derived.Test.YtehflacblgliiaaDoorF2
import Derived.Test.YtehflacblgliiaaDoorF3
namespace Go.Proofs.YtehflacblgliiaaDoor.F
open Go.RowKit Go.Proofs.YtehflacblgliiaaDoorHw Go.Proofs.YtehflacblgliiaaDoorHl Go.Proofs.YtehflacblgliiaaDoorHz Go.Proofs.YtehflacblgliiaaDoorW.PrintWords Go.Proofs.YtehflacblgliiaaDoorW.PrintLast Go.Proofs.YtehflacblgliiaaDoorW.PrintMore
attribute [local go_sem] max2_int min2_int max_two min_two max_three min_three max_four min_four   -- for this text's walks alone
set_option linter.unusedVariables false
set_option linter.unusedSimpArgs false

/-! ### impl_dateText: function 50 -/
def impl_dateText.f (k : Nat) (a0_0 : Int) (a0_1 : Int) (a0_2 : Int) (a0_3 : Int) (a0_4 : Int) (a0_5 : Int) : Option (ByteArray) := (impl_dayName.f k a0_0 a0_1 a0_2 a0_3 a0_4 a0_5).bind fun t168 => (if 0 ≤ 3 then (if 3 ≤ (t168.size : Int) then (if (t168.extract 0 3).size + 2 ≤ 9223372036854775807 then ((impl_twoDigits.f a0_2).bind fun t169 => (if ((t168.extract 0 3) ++ (⟨#[44, 32]⟩ : ByteArray)).size + t169.size ≤ 9223372036854775807 then (if (((t168.extract 0 3) ++ (⟨#[44, 32]⟩ : ByteArray)) ++ t169).size + 1 ≤ 9223372036854775807 then ((impl_monthNames.f).bind fun t170 => (if 0 ≤ (wrap64 (a0_1 - 1)) then (if (wrap64 (a0_1 - 1)) < (t170.length : Int) then (if ((((t168.extract 0 3) ++ (⟨#[44, 32]⟩ : ByteArray)) ++ t169) ++ (⟨#[32]⟩ : ByteArray)).size + (rdOf ByteArray.empty t170 (wrap64 (a0_1 - 1))).size ≤ 9223372036854775807 then (if (((((t168.extract 0 3) ++ (⟨#[44, 32]⟩ : ByteArray)) ++ t169) ++ (⟨#[32]⟩ : ByteArray)) ++ (rdOf ByteArray.empty t170 (wrap64 (a0_1 - 1)))).size + 1 ≤ 9223372036854775807 then ((strconv_Itoa.f a0_0).bind fun t174 => (if ((((((t168.extract 0 3) ++ (⟨#[44, 32]⟩ : ByteArray)) ++ t169) ++ (⟨#[32]⟩ : ByteArray)) ++ (rdOf ByteArray.empty t170 (wrap64 (a0_1 - 1)))) ++ (⟨#[32]⟩ : ByteArray)).size + t174.size ≤ 9223372036854775807 then (if (((((((t168.extract 0 3) ++ (⟨#[44, 32]⟩ : ByteArray)) ++ t169) ++ (⟨#[32]⟩ : ByteArray)) ++ (rdOf ByteArray.empty t170 (wrap64 (a0_1 - 1)))) ++ (⟨#[32]⟩ : ByteArray)) ++ t174).size + 1 ≤ 9223372036854775807 then ((impl_clockText.f a0_0 a0_1 a0_2 a0_3 a0_4 a0_5).bind fun t175 => (if ((((((((t168.extract 0 3) ++ (⟨#[44, 32]⟩ : ByteArray)) ++ t169) ++ (⟨#[32]⟩ : ByteArray)) ++ (rdOf ByteArray.empty t170 (wrap64 (a0_1 - 1)))) ++ (⟨#[32]⟩ : ByteArray)) ++ t174) ++ (⟨#[32]⟩ : ByteArray)).size + t175.size ≤ 9223372036854775807 then (if (((((((((t168.extract 0 3) ++ (⟨#[44, 32]⟩ : ByteArray)) ++ t169) ++ (⟨#[32]⟩ : ByteArray)) ++ (rdOf ByteArray.empty t170 (wrap64 (a0_1 - 1)))) ++ (⟨#[32]⟩ : ByteArray)) ++ t174) ++ (⟨#[32]⟩ : ByteArray)) ++ t175).size + 4 ≤ 9223372036854775807 then (some ((((((((((t168.extract 0 3) ++ (⟨#[44, 32]⟩ : ByteArray)) ++ t169) ++ (⟨#[32]⟩ : ByteArray)) ++ (rdOf ByteArray.empty t170 (wrap64 (a0_1 - 1)))) ++ (⟨#[32]⟩ : ByteArray)) ++ t174) ++ (⟨#[32]⟩ : ByteArray)) ++ t175) ++ (⟨#[32, 71, 77, 84]⟩ : ByteArray))) else (none)) else (none))) else (none)) else (none))) else (none)) else (none)) else (none)) else (none))) else (none)) else (none))) else (none)) else (none)) else (none))
theorem impl_dateText.mono : ∀ a0 a1 a2 a3 a4 a5 k, LeO (impl_dateText.f k a0 a1 a2 a3 a4 a5) (impl_dateText.f (k + 1) a0 a1 a2 a3 a4 a5) := by
 intro a0 a1 a2 a3 a4 a5 k
 unfold impl_dateText.f
 repeat' first
   | (with_reducible exact impl_dayName.mono _ _ _ _ _ _ _)
   | (with_reducible exact LeO.refl _)
   | (with_reducible exact LeO.none _)
   | (with_reducible refine LeO.ite ?_ ?_)
   | (with_reducible refine LeO.bind ?_ (fun _ => ?_))
   | exact impl_dayName.mono _ _ _ _ _ _ _
   | exact LeO.none _
   | refine LeO.ite ?_ ?_
   | refine LeO.bind ?_ (fun _ => ?_)
def impl_dateText.T1 : Bool × List (List Nat × List Nat) := (true, [([], []), ([0], [0]), ([1], [1]), ([2], [2]), ([], []), ([4], [4]), ([5, 1], [5]), ([3, 6], [3, 6]), ([7], [7]), ([6], []), ([], []), ([10], [10]), ([11], [11]), ([9, 12], [9, 12]), ([13], [13]), ([8, 14], [8, 14]), ([15], [15]), ([], []), ([17], [17]), ([18, 9], [18]), ([16, 19], [16, 19]), ([20], [20]), ([], []), ([22, 19], [22]), ([21, 23], [21, 23]), ([24], [24]), ([25, 23, 0, 1, 2, 3, 4, 5, 6, 7, 8, 9, 10, 11, 12, 13, 14, 15, 16, 17, 18, 19, 20, 21, 22, 23, 24, 25], [25])])
def impl_dateText.B1 : List Nat := [0, 1, 3, 7, 0, 16, 51, 127, 255, 115, 0, 1024, 3072, 7795, 15987, 32767, 65535, 0, 131072, 393843, 1048575, 2097151, 0, 5112435, 16777215, 33554431, 67108863]
theorem impl_dateText.tab1 : rtab .any (opsOf Tryd.f50 1) = impl_dateText.T1 := by kernel_rfl
theorem impl_dateText.bits1 : waitsOk impl_dateText.T1.2 impl_dateText.B1 = true := by kernel_rfl
theorem impl_dateText.more_ {P : Program} {md : Region.Mode} {ops : Array Oper} {Q : Exit → Act → World → Prop} {S S' : World → Prop} (hss : ∀ w, S' w → S w) : ∀ {fuel : Nat} {l : Array Bool} {a : Act} {w : World}, S' w → (S' w → wpAnyLast P md ops Q S' [] fuel l a w) → wpAnyLast P md ops Q S [] fuel l a w
 | 0, _, _, _, h, hh => hh h
 | fuel + 1, _, _, _, h, hh => ⟨(hh h).1, fun i hi => wpOp_mono (fun a' w' h' => ⟨fun _ _ => hss _ (h'.1 (by simp) h), impl_dateText.more_ hss (h'.1 (by simp) h) (fun _ => h'.2)⟩) ((hh h).2 i hi)⟩
set_option maxHeartbeats 8000000 in
set_option maxRecDepth 100000 in
theorem impl_dateText.calls (k : Nat) (a0_0 : Int) (a0_1 : Int) (a0_2 : Int) (a0_3 : Int) (a0_4 : Int) (a0_5 : Int) (r : ByteArray) (w : World) (hgP : LaidP w) (hgS : LaidS w) (h : impl_dateText.f k a0_0 a0_1 a0_2 a0_3 a0_4 a0_5 = some r) :
  Calls Tryd.prog 50 #[.agg #[.int .i64 a0_0, .int .i64 a0_1, .int .i64 a0_2, .int .i64 a0_3, .int .i64 a0_4, .int .i64 a0_5]] w fun e w' => e = .returned (.string r) ∧ Below w.heap.size w w' := by
 have hu43 := Tryd.underlying43
 have HGP := Aside0.mk hgP
 clear hgP
 have HGS := Aside0.mk hgS
 clear hgS
 have HB := Aside0.mk (Below.refl w.heap.size w)
 have H : ((impl_dayName.f k a0_0 a0_1 a0_2 a0_3 a0_4 a0_5).bind fun t168 => (if 0 ≤ 3 then (if 3 ≤ (t168.size : Int) then (if (t168.extract 0 3).size + 2 ≤ 9223372036854775807 then ((impl_twoDigits.f a0_2).bind fun t169 => (if ((t168.extract 0 3) ++ (⟨#[44, 32]⟩ : ByteArray)).size + t169.size ≤ 9223372036854775807 then (if (((t168.extract 0 3) ++ (⟨#[44, 32]⟩ : ByteArray)) ++ t169).size + 1 ≤ 9223372036854775807 then ((impl_monthNames.f).bind fun t170 => (if 0 ≤ (wrap64 (a0_1 - 1)) then (if (wrap64 (a0_1 - 1)) < (t170.length : Int) then (if ((((t168.extract 0 3) ++ (⟨#[44, 32]⟩ : ByteArray)) ++ t169) ++ (⟨#[32]⟩ : ByteArray)).size + (rdOf ByteArray.empty t170 (wrap64 (a0_1 - 1))).size ≤ 9223372036854775807 then (if (((((t168.extract 0 3) ++ (⟨#[44, 32]⟩ : ByteArray)) ++ t169) ++ (⟨#[32]⟩ : ByteArray)) ++ (rdOf ByteArray.empty t170 (wrap64 (a0_1 - 1)))).size + 1 ≤ 9223372036854775807 then ((strconv_Itoa.f a0_0).bind fun t174 => (if ((((((t168.extract 0 3) ++ (⟨#[44, 32]⟩ : ByteArray)) ++ t169) ++ (⟨#[32]⟩ : ByteArray)) ++ (rdOf ByteArray.empty t170 (wrap64 (a0_1 - 1)))) ++ (⟨#[32]⟩ : ByteArray)).size + t174.size ≤ 9223372036854775807 then (if (((((((t168.extract 0 3) ++ (⟨#[44, 32]⟩ : ByteArray)) ++ t169) ++ (⟨#[32]⟩ : ByteArray)) ++ (rdOf ByteArray.empty t170 (wrap64 (a0_1 - 1)))) ++ (⟨#[32]⟩ : ByteArray)) ++ t174).size + 1 ≤ 9223372036854775807 then ((impl_clockText.f a0_0 a0_1 a0_2 a0_3 a0_4 a0_5).bind fun t175 => (if ((((((((t168.extract 0 3) ++ (⟨#[44, 32]⟩ : ByteArray)) ++ t169) ++ (⟨#[32]⟩ : ByteArray)) ++ (rdOf ByteArray.empty t170 (wrap64 (a0_1 - 1)))) ++ (⟨#[32]⟩ : ByteArray)) ++ t174) ++ (⟨#[32]⟩ : ByteArray)).size + t175.size ≤ 9223372036854775807 then (if (((((((((t168.extract 0 3) ++ (⟨#[44, 32]⟩ : ByteArray)) ++ t169) ++ (⟨#[32]⟩ : ByteArray)) ++ (rdOf ByteArray.empty t170 (wrap64 (a0_1 - 1)))) ++ (⟨#[32]⟩ : ByteArray)) ++ t174) ++ (⟨#[32]⟩ : ByteArray)) ++ t175).size + 4 ≤ 9223372036854775807 then (some ((((((((((t168.extract 0 3) ++ (⟨#[44, 32]⟩ : ByteArray)) ++ t169) ++ (⟨#[32]⟩ : ByteArray)) ++ (rdOf ByteArray.empty t170 (wrap64 (a0_1 - 1)))) ++ (⟨#[32]⟩ : ByteArray)) ++ t174) ++ (⟨#[32]⟩ : ByteArray)) ++ t175) ++ (⟨#[32, 71, 77, 84]⟩ : ByteArray))) else (none)) else (none))) else (none)) else (none))) else (none)) else (none)) else (none)) else (none))) else (none)) else (none))) else (none)) else (none)) else (none))) = some r := h
 clear h
 replace H := Option.bind_eq_some_iff.mp H
 obtain ⟨t168, A20, H⟩ := H
 replace H : (if 0 ≤ 3 then (if 3 ≤ (t168.size : Int) then (if (t168.extract 0 3).size + 2 ≤ 9223372036854775807 then ((impl_twoDigits.f a0_2).bind fun t169 => (if ((t168.extract 0 3) ++ (⟨#[44, 32]⟩ : ByteArray)).size + t169.size ≤ 9223372036854775807 then (if (((t168.extract 0 3) ++ (⟨#[44, 32]⟩ : ByteArray)) ++ t169).size + 1 ≤ 9223372036854775807 then ((impl_monthNames.f).bind fun t170 => (if 0 ≤ (wrap64 (a0_1 - 1)) then (if (wrap64 (a0_1 - 1)) < (t170.length : Int) then (if ((((t168.extract 0 3) ++ (⟨#[44, 32]⟩ : ByteArray)) ++ t169) ++ (⟨#[32]⟩ : ByteArray)).size + (rdOf ByteArray.empty t170 (wrap64 (a0_1 - 1))).size ≤ 9223372036854775807 then (if (((((t168.extract 0 3) ++ (⟨#[44, 32]⟩ : ByteArray)) ++ t169) ++ (⟨#[32]⟩ : ByteArray)) ++ (rdOf ByteArray.empty t170 (wrap64 (a0_1 - 1)))).size + 1 ≤ 9223372036854775807 then ((strconv_Itoa.f a0_0).bind fun t174 => (if ((((((t168.extract 0 3) ++ (⟨#[44, 32]⟩ : ByteArray)) ++ t169) ++ (⟨#[32]⟩ : ByteArray)) ++ (rdOf ByteArray.empty t170 (wrap64 (a0_1 - 1)))) ++ (⟨#[32]⟩ : ByteArray)).size + t174.size ≤ 9223372036854775807 then (if (((((((t168.extract 0 3) ++ (⟨#[44, 32]⟩ : ByteArray)) ++ t169) ++ (⟨#[32]⟩ : ByteArray)) ++ (rdOf ByteArray.empty t170 (wrap64 (a0_1 - 1)))) ++ (⟨#[32]⟩ : ByteArray)) ++ t174).size + 1 ≤ 9223372036854775807 then ((impl_clockText.f a0_0 a0_1 a0_2 a0_3 a0_4 a0_5).bind fun t175 => (if ((((((((t168.extract 0 3) ++ (⟨#[44, 32]⟩ : ByteArray)) ++ t169) ++ (⟨#[32]⟩ : ByteArray)) ++ (rdOf ByteArray.empty t170 (wrap64 (a0_1 - 1)))) ++ (⟨#[32]⟩ : ByteArray)) ++ t174) ++ (⟨#[32]⟩ : ByteArray)).size + t175.size ≤ 9223372036854775807 then (if (((((((((t168.extract 0 3) ++ (⟨#[44, 32]⟩ : ByteArray)) ++ t169) ++ (⟨#[32]⟩ : ByteArray)) ++ (rdOf ByteArray.empty t170 (wrap64 (a0_1 - 1)))) ++ (⟨#[32]⟩ : ByteArray)) ++ t174) ++ (⟨#[32]⟩ : ByteArray)) ++ t175).size + 4 ≤ 9223372036854775807 then (some ((((((((((t168.extract 0 3) ++ (⟨#[44, 32]⟩ : ByteArray)) ++ t169) ++ (⟨#[32]⟩ : ByteArray)) ++ (rdOf ByteArray.empty t170 (wrap64 (a0_1 - 1)))) ++ (⟨#[32]⟩ : ByteArray)) ++ t174) ++ (⟨#[32]⟩ : ByteArray)) ++ t175) ++ (⟨#[32, 71, 77, 84]⟩ : ByteArray))) else (none)) else (none))) else (none)) else (none))) else (none)) else (none)) else (none)) else (none))) else (none)) else (none))) else (none)) else (none)) else (none)) = some r := H
 have A2 := Aside0.mk A20
 clear A20
 by_cases c3 : 0 ≤ 3
 ·rw [if_pos c3] at H
  have c3b0 := eq_true c3
  have c3b1 : decide (0 ≤ 3) = true := decide_eq_true c3
  clear c3
  by_cases c4 : 3 ≤ (t168.size : Int)
  ·rw [if_pos c4] at H
   have c4b0 := eq_true c4
   have c4b1 : decide (3 ≤ (t168.size : Int)) = true := decide_eq_true c4
   clear c4
   by_cases c5 : (t168.extract 0 3).size + 2 ≤ 9223372036854775807
   ·rw [if_pos c5] at H
    have c5b0 := eq_true c5
    have c5b1 : decide ((t168.extract 0 3).size + 2 ≤ 9223372036854775807) = true := decide_eq_true c5
    try have c5b2 : (9223372036854775807 < (t168.extract 0 3).size + 2) = False := eq_false (Nat.not_lt.2 c5)
    try have c5b3 : (9223372036854775807 < (3 - 0) + 2) = False := eq_false (Nat.not_lt.2 (by have h_ := c5; simp only [ByteArray.size_append, ByteArray.size_extract] at h_; omega))
    try have c5b9 : (9223372036854775807 < min 3 t168.size + 2) = False := eq_false (Nat.not_lt.2 (by have h_ := c5; simp only [ByteArray.size_append, ByteArray.size_extract] at h_; omega))
    replace H := Option.bind_eq_some_iff.mp H
    obtain ⟨t169, A60, H⟩ := H
    replace H : (if ((t168.extract 0 3) ++ (⟨#[44, 32]⟩ : ByteArray)).size + t169.size ≤ 9223372036854775807 then (if (((t168.extract 0 3) ++ (⟨#[44, 32]⟩ : ByteArray)) ++ t169).size + 1 ≤ 9223372036854775807 then ((impl_monthNames.f).bind fun t170 => (if 0 ≤ (wrap64 (a0_1 - 1)) then (if (wrap64 (a0_1 - 1)) < (t170.length : Int) then (if ((((t168.extract 0 3) ++ (⟨#[44, 32]⟩ : ByteArray)) ++ t169) ++ (⟨#[32]⟩ : ByteArray)).size + (rdOf ByteArray.empty t170 (wrap64 (a0_1 - 1))).size ≤ 9223372036854775807 then (if (((((t168.extract 0 3) ++ (⟨#[44, 32]⟩ : ByteArray)) ++ t169) ++ (⟨#[32]⟩ : ByteArray)) ++ (rdOf ByteArray.empty t170 (wrap64 (a0_1 - 1)))).size + 1 ≤ 9223372036854775807 then ((strconv_Itoa.f a0_0).bind fun t174 => (if ((((((t168.extract 0 3) ++ (⟨#[44, 32]⟩ : ByteArray)) ++ t169) ++ (⟨#[32]⟩ : ByteArray)) ++ (rdOf ByteArray.empty t170 (wrap64 (a0_1 - 1)))) ++ (⟨#[32]⟩ : ByteArray)).size + t174.size ≤ 9223372036854775807 then (if (((((((t168.extract 0 3) ++ (⟨#[44, 32]⟩ : ByteArray)) ++ t169) ++ (⟨#[32]⟩ : ByteArray)) ++ (rdOf ByteArray.empty t170 (wrap64 (a0_1 - 1)))) ++ (⟨#[32]⟩ : ByteArray)) ++ t174).size + 1 ≤ 9223372036854775807 then ((impl_clockText.f a0_0 a0_1 a0_2 a0_3 a0_4 a0_5).bind fun t175 => (if ((((((((t168.extract 0 3) ++ (⟨#[44, 32]⟩ : ByteArray)) ++ t169) ++ (⟨#[32]⟩ : ByteArray)) ++ (rdOf ByteArray.empty t170 (wrap64 (a0_1 - 1)))) ++ (⟨#[32]⟩ : ByteArray)) ++ t174) ++ (⟨#[32]⟩ : ByteArray)).size + t175.size ≤ 9223372036854775807 then (if (((((((((t168.extract 0 3) ++ (⟨#[44, 32]⟩ : ByteArray)) ++ t169) ++ (⟨#[32]⟩ : ByteArray)) ++ (rdOf ByteArray.empty t170 (wrap64 (a0_1 - 1)))) ++ (⟨#[32]⟩ : ByteArray)) ++ t174) ++ (⟨#[32]⟩ : ByteArray)) ++ t175).size + 4 ≤ 9223372036854775807 then (some ((((((((((t168.extract 0 3) ++ (⟨#[44, 32]⟩ : ByteArray)) ++ t169) ++ (⟨#[32]⟩ : ByteArray)) ++ (rdOf ByteArray.empty t170 (wrap64 (a0_1 - 1)))) ++ (⟨#[32]⟩ : ByteArray)) ++ t174) ++ (⟨#[32]⟩ : ByteArray)) ++ t175) ++ (⟨#[32, 71, 77, 84]⟩ : ByteArray))) else (none)) else (none))) else (none)) else (none))) else (none)) else (none)) else (none)) else (none))) else (none)) else (none)) = some r := H
    have A6 := Aside0.mk A60
    clear A60
    by_cases c7 : ((t168.extract 0 3) ++ (⟨#[44, 32]⟩ : ByteArray)).size + t169.size ≤ 9223372036854775807
    ·rw [if_pos c7] at H
     have c7b0 := eq_true c7
     have c7b1 : decide (((t168.extract 0 3) ++ (⟨#[44, 32]⟩ : ByteArray)).size + t169.size ≤ 9223372036854775807) = true := decide_eq_true c7
     try have c7b2 : (9223372036854775807 < ((t168.extract 0 3) ++ (⟨#[44, 32]⟩ : ByteArray)).size + t169.size) = False := eq_false (Nat.not_lt.2 c7)
     try have c7b3 : (9223372036854775807 < (3 - 0) + 2 + t169.size) = False := eq_false (Nat.not_lt.2 (by have e0_ : (⟨#[44, 32]⟩ : ByteArray).size = 2 := rfl; have h_ := c7; simp only [ByteArray.size_append, ByteArray.size_extract] at h_ e0_; omega))
     try have c7b9 : (9223372036854775807 < min 3 t168.size + 2 + t169.size) = False := eq_false (Nat.not_lt.2 (by have e0_ : (⟨#[44, 32]⟩ : ByteArray).size = 2 := rfl; have h_ := c7; simp only [ByteArray.size_append, ByteArray.size_extract] at h_ e0_; omega))
     by_cases c8 : (((t168.extract 0 3) ++ (⟨#[44, 32]⟩ : ByteArray)) ++ t169).size + 1 ≤ 9223372036854775807
     ·rw [if_pos c8] at H
      have c8b0 := eq_true c8
      have c8b1 : decide ((((t168.extract 0 3) ++ (⟨#[44, 32]⟩ : ByteArray)) ++ t169).size + 1 ≤ 9223372036854775807) = true := decide_eq_true c8
      try have c8b2 : (9223372036854775807 < (((t168.extract 0 3) ++ (⟨#[44, 32]⟩ : ByteArray)) ++ t169).size + 1) = False := eq_false (Nat.not_lt.2 c8)
      try have c8b3 : (9223372036854775807 < (3 - 0) + 2 + t169.size + 1) = False := eq_false (Nat.not_lt.2 (by have e0_ : (⟨#[44, 32]⟩ : ByteArray).size = 2 := rfl; have h_ := c8; simp only [ByteArray.size_append, ByteArray.size_extract] at h_ e0_; omega))
      try have c8b9 : (9223372036854775807 < min 3 t168.size + 2 + t169.size + 1) = False := eq_false (Nat.not_lt.2 (by have e0_ : (⟨#[44, 32]⟩ : ByteArray).size = 2 := rfl; have h_ := c8; simp only [ByteArray.size_append, ByteArray.size_extract] at h_ e0_; omega))
      replace H := Option.bind_eq_some_iff.mp H
      obtain ⟨t170, A90, H⟩ := H
      replace H : (if 0 ≤ (wrap64 (a0_1 - 1)) then (if (wrap64 (a0_1 - 1)) < (t170.length : Int) then (if ((((t168.extract 0 3) ++ (⟨#[44, 32]⟩ : ByteArray)) ++ t169) ++ (⟨#[32]⟩ : ByteArray)).size + (rdOf ByteArray.empty t170 (wrap64 (a0_1 - 1))).size ≤ 9223372036854775807 then (if (((((t168.extract 0 3) ++ (⟨#[44, 32]⟩ : ByteArray)) ++ t169) ++ (⟨#[32]⟩ : ByteArray)) ++ (rdOf ByteArray.empty t170 (wrap64 (a0_1 - 1)))).size + 1 ≤ 9223372036854775807 then ((strconv_Itoa.f a0_0).bind fun t174 => (if ((((((t168.extract 0 3) ++ (⟨#[44, 32]⟩ : ByteArray)) ++ t169) ++ (⟨#[32]⟩ : ByteArray)) ++ (rdOf ByteArray.empty t170 (wrap64 (a0_1 - 1)))) ++ (⟨#[32]⟩ : ByteArray)).size + t174.size ≤ 9223372036854775807 then (if (((((((t168.extract 0 3) ++ (⟨#[44, 32]⟩ : ByteArray)) ++ t169) ++ (⟨#[32]⟩ : ByteArray)) ++ (rdOf ByteArray.empty t170 (wrap64 (a0_1 - 1)))) ++ (⟨#[32]⟩ : ByteArray)) ++ t174).size + 1 ≤ 9223372036854775807 then ((impl_clockText.f a0_0 a0_1 a0_2 a0_3 a0_4 a0_5).bind fun t175 => (if ((((((((t168.extract 0 3) ++ (⟨#[44, 32]⟩ : ByteArray)) ++ t169) ++ (⟨#[32]⟩ : ByteArray)) ++ (rdOf ByteArray.empty t170 (wrap64 (a0_1 - 1)))) ++ (⟨#[32]⟩ : ByteArray)) ++ t174) ++ (⟨#[32]⟩ : ByteArray)).size + t175.size ≤ 9223372036854775807 then (if (((((((((t168.extract 0 3) ++ (⟨#[44, 32]⟩ : ByteArray)) ++ t169) ++ (⟨#[32]⟩ : ByteArray)) ++ (rdOf ByteArray.empty t170 (wrap64 (a0_1 - 1)))) ++ (⟨#[32]⟩ : ByteArray)) ++ t174) ++ (⟨#[32]⟩ : ByteArray)) ++ t175).size + 4 ≤ 9223372036854775807 then (some ((((((((((t168.extract 0 3) ++ (⟨#[44, 32]⟩ : ByteArray)) ++ t169) ++ (⟨#[32]⟩ : ByteArray)) ++ (rdOf ByteArray.empty t170 (wrap64 (a0_1 - 1)))) ++ (⟨#[32]⟩ : ByteArray)) ++ t174) ++ (⟨#[32]⟩ : ByteArray)) ++ t175) ++ (⟨#[32, 71, 77, 84]⟩ : ByteArray))) else (none)) else (none))) else (none)) else (none))) else (none)) else (none)) else (none)) else (none)) = some r := H
      have A9 := Aside0.mk A90
      clear A90
      obtain ⟨ji10, hji10⟩ : ∃ j_ : Int, (wrap64 (a0_1 - 1)) = j_ := ⟨_, rfl⟩
      replace H : (if 0 ≤ (ji10) then (if (ji10) < (t170.length : Int) then (if ((((t168.extract 0 3) ++ (⟨#[44, 32]⟩ : ByteArray)) ++ t169) ++ (⟨#[32]⟩ : ByteArray)).size + (rdOf ByteArray.empty t170 (ji10)).size ≤ 9223372036854775807 then (if (((((t168.extract 0 3) ++ (⟨#[44, 32]⟩ : ByteArray)) ++ t169) ++ (⟨#[32]⟩ : ByteArray)) ++ (rdOf ByteArray.empty t170 (ji10))).size + 1 ≤ 9223372036854775807 then ((strconv_Itoa.f a0_0).bind fun t174 => (if ((((((t168.extract 0 3) ++ (⟨#[44, 32]⟩ : ByteArray)) ++ t169) ++ (⟨#[32]⟩ : ByteArray)) ++ (rdOf ByteArray.empty t170 (ji10))) ++ (⟨#[32]⟩ : ByteArray)).size + t174.size ≤ 9223372036854775807 then (if (((((((t168.extract 0 3) ++ (⟨#[44, 32]⟩ : ByteArray)) ++ t169) ++ (⟨#[32]⟩ : ByteArray)) ++ (rdOf ByteArray.empty t170 (ji10))) ++ (⟨#[32]⟩ : ByteArray)) ++ t174).size + 1 ≤ 9223372036854775807 then ((impl_clockText.f a0_0 a0_1 a0_2 a0_3 a0_4 a0_5).bind fun t175 => (if ((((((((t168.extract 0 3) ++ (⟨#[44, 32]⟩ : ByteArray)) ++ t169) ++ (⟨#[32]⟩ : ByteArray)) ++ (rdOf ByteArray.empty t170 (ji10))) ++ (⟨#[32]⟩ : ByteArray)) ++ t174) ++ (⟨#[32]⟩ : ByteArray)).size + t175.size ≤ 9223372036854775807 then (if (((((((((t168.extract 0 3) ++ (⟨#[44, 32]⟩ : ByteArray)) ++ t169) ++ (⟨#[32]⟩ : ByteArray)) ++ (rdOf ByteArray.empty t170 (ji10))) ++ (⟨#[32]⟩ : ByteArray)) ++ t174) ++ (⟨#[32]⟩ : ByteArray)) ++ t175).size + 4 ≤ 9223372036854775807 then (some ((((((((((t168.extract 0 3) ++ (⟨#[44, 32]⟩ : ByteArray)) ++ t169) ++ (⟨#[32]⟩ : ByteArray)) ++ (rdOf ByteArray.empty t170 (ji10))) ++ (⟨#[32]⟩ : ByteArray)) ++ t174) ++ (⟨#[32]⟩ : ByteArray)) ++ t175) ++ (⟨#[32, 71, 77, 84]⟩ : ByteArray))) else (none)) else (none))) else (none)) else (none))) else (none)) else (none)) else (none)) else (none)) = some r := by first | (rw [hji10] at H; exact H) | (simp only [hji10] at H ⊢; exact H)
      (try rw [hji10] at A2)
      (try rw [hji10] at A6)
      (try rw [hji10] at A9)
      have hji10w : (IntKind.i64.wrap (a0_1 - 1)) = ji10 := (i64_w _).trans hji10
      by_cases c11 : 0 ≤ (ji10)
      ·rw [if_pos c11] at H
       have c11b0 : decide (0 ≤ (ji10)) = true := decide_eq_true c11
       clear c11
       by_cases c12 : (ji10) < (t170.length : Int)
       ·rw [if_pos c12] at H
        have c12b0 : decide ((ji10) < (t170.length : Int)) = true := decide_eq_true c12
        clear c12
        by_cases c13 : ((((t168.extract 0 3) ++ (⟨#[44, 32]⟩ : ByteArray)) ++ t169) ++ (⟨#[32]⟩ : ByteArray)).size + (rdOf ByteArray.empty t170 (ji10)).size ≤ 9223372036854775807
        ·rw [if_pos c13] at H
         have c13b0 := eq_true c13
         have c13b1 : decide (((((t168.extract 0 3) ++ (⟨#[44, 32]⟩ : ByteArray)) ++ t169) ++ (⟨#[32]⟩ : ByteArray)).size + (rdOf ByteArray.empty t170 (ji10)).size ≤ 9223372036854775807) = true := decide_eq_true c13
         try have c13b2 : (9223372036854775807 < ((((t168.extract 0 3) ++ (⟨#[44, 32]⟩ : ByteArray)) ++ t169) ++ (⟨#[32]⟩ : ByteArray)).size + (rdOf ByteArray.empty t170 (ji10)).size) = False := eq_false (Nat.not_lt.2 c13)
         try have c13b3 : (9223372036854775807 < (3 - 0) + 2 + t169.size + 1 + (rdOf ByteArray.empty t170 (ji10)).size) = False := eq_false (Nat.not_lt.2 (by have e0_ : (⟨#[44, 32]⟩ : ByteArray).size = 2 := rfl; have e1_ : (⟨#[32]⟩ : ByteArray).size = 1 := rfl; have h_ := c13; simp only [ByteArray.size_append, ByteArray.size_extract] at h_ e0_ e1_; omega))
         try have c13b9 : (9223372036854775807 < min 3 t168.size + 2 + t169.size + 1 + (rdOf ByteArray.empty t170 (ji10)).size) = False := eq_false (Nat.not_lt.2 (by have e0_ : (⟨#[44, 32]⟩ : ByteArray).size = 2 := rfl; have e1_ : (⟨#[32]⟩ : ByteArray).size = 1 := rfl; have h_ := c13; simp only [ByteArray.size_append, ByteArray.size_extract] at h_ e0_ e1_; omega))
         by_cases c14 : (((((t168.extract 0 3) ++ (⟨#[44, 32]⟩ : ByteArray)) ++ t169) ++ (⟨#[32]⟩ : ByteArray)) ++ (rdOf ByteArray.empty t170 (ji10))).size + 1 ≤ 9223372036854775807
         ·rw [if_pos c14] at H
          have c14b0 := eq_true c14
          have c14b1 : decide ((((((t168.extract 0 3) ++ (⟨#[44, 32]⟩ : ByteArray)) ++ t169) ++ (⟨#[32]⟩ : ByteArray)) ++ (rdOf ByteArray.empty t170 (ji10))).size + 1 ≤ 9223372036854775807) = true := decide_eq_true c14
          try have c14b2 : (9223372036854775807 < (((((t168.extract 0 3) ++ (⟨#[44, 32]⟩ : ByteArray)) ++ t169) ++ (⟨#[32]⟩ : ByteArray)) ++ (rdOf ByteArray.empty t170 (ji10))).size + 1) = False := eq_false (Nat.not_lt.2 c14)
          try have c14b3 : (9223372036854775807 < (3 - 0) + 2 + t169.size + 1 + (rdOf ByteArray.empty t170 (ji10)).size + 1) = False := eq_false (Nat.not_lt.2 (by have e0_ : (⟨#[44, 32]⟩ : ByteArray).size = 2 := rfl; have e1_ : (⟨#[32]⟩ : ByteArray).size = 1 := rfl; have h_ := c14; simp only [ByteArray.size_append, ByteArray.size_extract] at h_ e0_ e1_; omega))
          try have c14b9 : (9223372036854775807 < min 3 t168.size + 2 + t169.size + 1 + (rdOf ByteArray.empty t170 (ji10)).size + 1) = False := eq_false (Nat.not_lt.2 (by have e0_ : (⟨#[44, 32]⟩ : ByteArray).size = 2 := rfl; have e1_ : (⟨#[32]⟩ : ByteArray).size = 1 := rfl; have h_ := c14; simp only [ByteArray.size_append, ByteArray.size_extract] at h_ e0_ e1_; omega))
          replace H := Option.bind_eq_some_iff.mp H
          obtain ⟨t174, A150, H⟩ := H
          replace H : (if ((((((t168.extract 0 3) ++ (⟨#[44, 32]⟩ : ByteArray)) ++ t169) ++ (⟨#[32]⟩ : ByteArray)) ++ (rdOf ByteArray.empty t170 (ji10))) ++ (⟨#[32]⟩ : ByteArray)).size + t174.size ≤ 9223372036854775807 then (if (((((((t168.extract 0 3) ++ (⟨#[44, 32]⟩ : ByteArray)) ++ t169) ++ (⟨#[32]⟩ : ByteArray)) ++ (rdOf ByteArray.empty t170 (ji10))) ++ (⟨#[32]⟩ : ByteArray)) ++ t174).size + 1 ≤ 9223372036854775807 then ((impl_clockText.f a0_0 a0_1 a0_2 a0_3 a0_4 a0_5).bind fun t175 => (if ((((((((t168.extract 0 3) ++ (⟨#[44, 32]⟩ : ByteArray)) ++ t169) ++ (⟨#[32]⟩ : ByteArray)) ++ (rdOf ByteArray.empty t170 (ji10))) ++ (⟨#[32]⟩ : ByteArray)) ++ t174) ++ (⟨#[32]⟩ : ByteArray)).size + t175.size ≤ 9223372036854775807 then (if (((((((((t168.extract 0 3) ++ (⟨#[44, 32]⟩ : ByteArray)) ++ t169) ++ (⟨#[32]⟩ : ByteArray)) ++ (rdOf ByteArray.empty t170 (ji10))) ++ (⟨#[32]⟩ : ByteArray)) ++ t174) ++ (⟨#[32]⟩ : ByteArray)) ++ t175).size + 4 ≤ 9223372036854775807 then (some ((((((((((t168.extract 0 3) ++ (⟨#[44, 32]⟩ : ByteArray)) ++ t169) ++ (⟨#[32]⟩ : ByteArray)) ++ (rdOf ByteArray.empty t170 (ji10))) ++ (⟨#[32]⟩ : ByteArray)) ++ t174) ++ (⟨#[32]⟩ : ByteArray)) ++ t175) ++ (⟨#[32, 71, 77, 84]⟩ : ByteArray))) else (none)) else (none))) else (none)) else (none)) = some r := H
          have A15 := Aside0.mk A150
          clear A150
          by_cases c16 : ((((((t168.extract 0 3) ++ (⟨#[44, 32]⟩ : ByteArray)) ++ t169) ++ (⟨#[32]⟩ : ByteArray)) ++ (rdOf ByteArray.empty t170 (ji10))) ++ (⟨#[32]⟩ : ByteArray)).size + t174.size ≤ 9223372036854775807
          ·rw [if_pos c16] at H
           have c16b0 := eq_true c16
           have c16b1 : decide (((((((t168.extract 0 3) ++ (⟨#[44, 32]⟩ : ByteArray)) ++ t169) ++ (⟨#[32]⟩ : ByteArray)) ++ (rdOf ByteArray.empty t170 (ji10))) ++ (⟨#[32]⟩ : ByteArray)).size + t174.size ≤ 9223372036854775807) = true := decide_eq_true c16
           try have c16b2 : (9223372036854775807 < ((((((t168.extract 0 3) ++ (⟨#[44, 32]⟩ : ByteArray)) ++ t169) ++ (⟨#[32]⟩ : ByteArray)) ++ (rdOf ByteArray.empty t170 (ji10))) ++ (⟨#[32]⟩ : ByteArray)).size + t174.size) = False := eq_false (Nat.not_lt.2 c16)
           try have c16b3 : (9223372036854775807 < (3 - 0) + 2 + t169.size + 1 + (rdOf ByteArray.empty t170 (ji10)).size + 1 + t174.size) = False := eq_false (Nat.not_lt.2 (by have e0_ : (⟨#[44, 32]⟩ : ByteArray).size = 2 := rfl; have e1_ : (⟨#[32]⟩ : ByteArray).size = 1 := rfl; have h_ := c16; simp only [ByteArray.size_append, ByteArray.size_extract] at h_ e0_ e1_; omega))
           try have c16b9 : (9223372036854775807 < min 3 t168.size + 2 + t169.size + 1 + (rdOf ByteArray.empty t170 (ji10)).size + 1 + t174.size) = False := eq_false (Nat.not_lt.2 (by have e0_ : (⟨#[44, 32]⟩ : ByteArray).size = 2 := rfl; have e1_ : (⟨#[32]⟩ : ByteArray).size = 1 := rfl; have h_ := c16; simp only [ByteArray.size_append, ByteArray.size_extract] at h_ e0_ e1_; omega))
           by_cases c17 : (((((((t168.extract 0 3) ++ (⟨#[44, 32]⟩ : ByteArray)) ++ t169) ++ (⟨#[32]⟩ : ByteArray)) ++ (rdOf ByteArray.empty t170 (ji10))) ++ (⟨#[32]⟩ : ByteArray)) ++ t174).size + 1 ≤ 9223372036854775807
           ·rw [if_pos c17] at H
            have c17b0 := eq_true c17
            have c17b1 : decide ((((((((t168.extract 0 3) ++ (⟨#[44, 32]⟩ : ByteArray)) ++ t169) ++ (⟨#[32]⟩ : ByteArray)) ++ (rdOf ByteArray.empty t170 (ji10))) ++ (⟨#[32]⟩ : ByteArray)) ++ t174).size + 1 ≤ 9223372036854775807) = true := decide_eq_true c17
            try have c17b2 : (9223372036854775807 < (((((((t168.extract 0 3) ++ (⟨#[44, 32]⟩ : ByteArray)) ++ t169) ++ (⟨#[32]⟩ : ByteArray)) ++ (rdOf ByteArray.empty t170 (ji10))) ++ (⟨#[32]⟩ : ByteArray)) ++ t174).size + 1) = False := eq_false (Nat.not_lt.2 c17)
            try have c17b3 : (9223372036854775807 < (3 - 0) + 2 + t169.size + 1 + (rdOf ByteArray.empty t170 (ji10)).size + 1 + t174.size + 1) = False := eq_false (Nat.not_lt.2 (by have e0_ : (⟨#[44, 32]⟩ : ByteArray).size = 2 := rfl; have e1_ : (⟨#[32]⟩ : ByteArray).size = 1 := rfl; have h_ := c17; simp only [ByteArray.size_append, ByteArray.size_extract] at h_ e0_ e1_; omega))
            try have c17b9 : (9223372036854775807 < min 3 t168.size + 2 + t169.size + 1 + (rdOf ByteArray.empty t170 (ji10)).size + 1 + t174.size + 1) = False := eq_false (Nat.not_lt.2 (by have e0_ : (⟨#[44, 32]⟩ : ByteArray).size = 2 := rfl; have e1_ : (⟨#[32]⟩ : ByteArray).size = 1 := rfl; have h_ := c17; simp only [ByteArray.size_append, ByteArray.size_extract] at h_ e0_ e1_; omega))
            replace H := Option.bind_eq_some_iff.mp H
            obtain ⟨t175, A180, H⟩ := H
            replace H : (if ((((((((t168.extract 0 3) ++ (⟨#[44, 32]⟩ : ByteArray)) ++ t169) ++ (⟨#[32]⟩ : ByteArray)) ++ (rdOf ByteArray.empty t170 (ji10))) ++ (⟨#[32]⟩ : ByteArray)) ++ t174) ++ (⟨#[32]⟩ : ByteArray)).size + t175.size ≤ 9223372036854775807 then (if (((((((((t168.extract 0 3) ++ (⟨#[44, 32]⟩ : ByteArray)) ++ t169) ++ (⟨#[32]⟩ : ByteArray)) ++ (rdOf ByteArray.empty t170 (ji10))) ++ (⟨#[32]⟩ : ByteArray)) ++ t174) ++ (⟨#[32]⟩ : ByteArray)) ++ t175).size + 4 ≤ 9223372036854775807 then (some ((((((((((t168.extract 0 3) ++ (⟨#[44, 32]⟩ : ByteArray)) ++ t169) ++ (⟨#[32]⟩ : ByteArray)) ++ (rdOf ByteArray.empty t170 (ji10))) ++ (⟨#[32]⟩ : ByteArray)) ++ t174) ++ (⟨#[32]⟩ : ByteArray)) ++ t175) ++ (⟨#[32, 71, 77, 84]⟩ : ByteArray))) else (none)) else (none)) = some r := H
            have A18 := Aside0.mk A180
            clear A180
            by_cases c19 : ((((((((t168.extract 0 3) ++ (⟨#[44, 32]⟩ : ByteArray)) ++ t169) ++ (⟨#[32]⟩ : ByteArray)) ++ (rdOf ByteArray.empty t170 (ji10))) ++ (⟨#[32]⟩ : ByteArray)) ++ t174) ++ (⟨#[32]⟩ : ByteArray)).size + t175.size ≤ 9223372036854775807
            ·rw [if_pos c19] at H
             have c19b0 := eq_true c19
             have c19b1 : decide (((((((((t168.extract 0 3) ++ (⟨#[44, 32]⟩ : ByteArray)) ++ t169) ++ (⟨#[32]⟩ : ByteArray)) ++ (rdOf ByteArray.empty t170 (ji10))) ++ (⟨#[32]⟩ : ByteArray)) ++ t174) ++ (⟨#[32]⟩ : ByteArray)).size + t175.size ≤ 9223372036854775807) = true := decide_eq_true c19
             try have c19b2 : (9223372036854775807 < ((((((((t168.extract 0 3) ++ (⟨#[44, 32]⟩ : ByteArray)) ++ t169) ++ (⟨#[32]⟩ : ByteArray)) ++ (rdOf ByteArray.empty t170 (ji10))) ++ (⟨#[32]⟩ : ByteArray)) ++ t174) ++ (⟨#[32]⟩ : ByteArray)).size + t175.size) = False := eq_false (Nat.not_lt.2 c19)
             try have c19b3 : (9223372036854775807 < (3 - 0) + 2 + t169.size + 1 + (rdOf ByteArray.empty t170 (ji10)).size + 1 + t174.size + 1 + t175.size) = False := eq_false (Nat.not_lt.2 (by have e0_ : (⟨#[44, 32]⟩ : ByteArray).size = 2 := rfl; have e1_ : (⟨#[32]⟩ : ByteArray).size = 1 := rfl; have h_ := c19; simp only [ByteArray.size_append, ByteArray.size_extract] at h_ e0_ e1_; omega))
             try have c19b9 : (9223372036854775807 < min 3 t168.size + 2 + t169.size + 1 + (rdOf ByteArray.empty t170 (ji10)).size + 1 + t174.size + 1 + t175.size) = False := eq_false (Nat.not_lt.2 (by have e0_ : (⟨#[44, 32]⟩ : ByteArray).size = 2 := rfl; have e1_ : (⟨#[32]⟩ : ByteArray).size = 1 := rfl; have h_ := c19; simp only [ByteArray.size_append, ByteArray.size_extract] at h_ e0_ e1_; omega))
             by_cases c20 : (((((((((t168.extract 0 3) ++ (⟨#[44, 32]⟩ : ByteArray)) ++ t169) ++ (⟨#[32]⟩ : ByteArray)) ++ (rdOf ByteArray.empty t170 (ji10))) ++ (⟨#[32]⟩ : ByteArray)) ++ t174) ++ (⟨#[32]⟩ : ByteArray)) ++ t175).size + 4 ≤ 9223372036854775807
             ·rw [if_pos c20] at H
              have c20b0 := eq_true c20
              have c20b1 : decide ((((((((((t168.extract 0 3) ++ (⟨#[44, 32]⟩ : ByteArray)) ++ t169) ++ (⟨#[32]⟩ : ByteArray)) ++ (rdOf ByteArray.empty t170 (ji10))) ++ (⟨#[32]⟩ : ByteArray)) ++ t174) ++ (⟨#[32]⟩ : ByteArray)) ++ t175).size + 4 ≤ 9223372036854775807) = true := decide_eq_true c20
              try have c20b2 : (9223372036854775807 < (((((((((t168.extract 0 3) ++ (⟨#[44, 32]⟩ : ByteArray)) ++ t169) ++ (⟨#[32]⟩ : ByteArray)) ++ (rdOf ByteArray.empty t170 (ji10))) ++ (⟨#[32]⟩ : ByteArray)) ++ t174) ++ (⟨#[32]⟩ : ByteArray)) ++ t175).size + 4) = False := eq_false (Nat.not_lt.2 c20)
              try have c20b3 : (9223372036854775807 < (3 - 0) + 2 + t169.size + 1 + (rdOf ByteArray.empty t170 (ji10)).size + 1 + t174.size + 1 + t175.size + 4) = False := eq_false (Nat.not_lt.2 (by have e0_ : (⟨#[44, 32]⟩ : ByteArray).size = 2 := rfl; have e1_ : (⟨#[32]⟩ : ByteArray).size = 1 := rfl; have h_ := c20; simp only [ByteArray.size_append, ByteArray.size_extract] at h_ e0_ e1_; omega))
              try have c20b9 : (9223372036854775807 < min 3 t168.size + 2 + t169.size + 1 + (rdOf ByteArray.empty t170 (ji10)).size + 1 + t174.size + 1 + t175.size + 4) = False := eq_false (Nat.not_lt.2 (by have e0_ : (⟨#[44, 32]⟩ : ByteArray).size = 2 := rfl; have e1_ : (⟨#[32]⟩ : ByteArray).size = 1 := rfl; have h_ := c20; simp only [ByteArray.size_append, ByteArray.size_extract] at h_ e0_ e1_; omega))
              obtain rfl := Option.some.inj H
              go_enter Tryd.func50, Tryd.ntmps50
              try go_wp2_with (first | ((with_reducible refine gate_dst (N := 1) rfl ?_); refine box_event ?hg (N := 1) ?hd (cs := #[.int .i64 a0_0, .int .i64 a0_1, .int .i64 a0_2, .int .i64 a0_3, .int .i64 a0_4, .int .i64 a0_5]) (t := 43) ?hr ?_; (case hd => rfl); (case hg => rfl); (case hr => first | (go_simp; done) | (go_simp; rfl)); intro gb167 hg w21 hbox hb; have n0_ := Aside0.mk (bstep hb); have n1_ := Aside0.mk (hbox); have n2_ := Aside0.mk ((by rw [hg]; exact bsize : w.heap.size ≤ gb167)); have n3_ := Aside0.mk ((by rw [hg]; exact bsize : w.heap.size ≤ gb167)); clear HB; have HB := n0_; have BK167 := n1_; have GW167 := n2_; have GE167 := n3_; clear n0_ n1_ n2_ n3_; clear hb hbox hg))
              have n0_ := Aside0.mk (blk_drew BK167.out)
              have n1_ := Aside0.mk (below_drew1 HB.out)
              clear BK167
              clear HB
              have BK167 := n0_
              have HB := n1_
              clear n0_ n1_
              refine start_ (n := 27) (S := fun w' => w'.cell? ⟨gb167, 0, none⟩ = some (.int .i64 a0_0) ∧ w'.cell? ⟨gb167, 1, none⟩ = some (.int .i64 a0_1) ∧ w'.cell? ⟨gb167, 2, none⟩ = some (.int .i64 a0_2) ∧ w'.cell? ⟨gb167, 3, none⟩ = some (.int .i64 a0_3) ∧ w'.cell? ⟨gb167, 4, none⟩ = some (.int .i64 a0_4) ∧ w'.cell? ⟨gb167, 5, none⟩ = some (.int .i64 a0_5)) (ds := []) #[Nn,Nn,Nn,Nn,Nn,Nn,Nn,Nn,Nn,Nn,Nn,Nn,Nn,Nn,Nn,Nn,Nn,Nn,Nn,Nn,Nn,Nn,Nn,Nn,Nn,Nn,Nn] (by kernel_rfl) rfl rfl ⟨(blk_cell BK167.out 0).trans rfl, (blk_cell BK167.out 1).trans rfl, (blk_cell BK167.out 2).trans rfl, (blk_cell BK167.out 3).trans rfl, (blk_cell BK167.out 4).trans rfl, (blk_cell BK167.out 5).trans rfl⟩ (fun hHeld => ?_); refine with_tabW impl_dateText.tab1 impl_dateText.bits1 (fun HT_ HW_ => ?_)
              generalize w21.drew = w22 at BK167 HB hHeld ⊢
              refine pure_ (i := 4) (N := some 7) (v := ?_) (a' := ?_) #[Nn,Nn,Nn,Nn,Yy,Nn,Nn,Nn,Nn,Nn,Nn,Nn,Nn,Nn,Nn,Nn,Nn,Nn,Nn,Nn,Nn,Nn,Nn,Nn,Nn,Nn,Nn] rfl rfl (any_of HT_.out (by kernel_rfl)) (fun _ _ _ h => h) (Or.inl ⟨by rfl, ?_⟩) ?_ ?_
              rotate_left
              ·intro w'
               go_simp
               with_reducible rfl
              rotate_left
              ·simp only [Act.put, q1, q2, q3, i64_w, i32_w]
               rfl
              refine pure_ (i := 10) (N := some 13) (v := ?_) (a' := ?_) #[Nn,Nn,Nn,Nn,Yy,Nn,Nn,Nn,Nn,Nn,Yy,Nn,Nn,Nn,Nn,Nn,Nn,Nn,Nn,Nn,Nn,Nn,Nn,Nn,Nn,Nn,Nn] rfl rfl (any_of HT_.out (by kernel_rfl)) (fun _ _ _ h => h) (Or.inl ⟨by rfl, ?_⟩) ?_ ?_
              rotate_left
              ·intro w'
               go_simp
               with_reducible rfl
              rotate_left
              ·simp only [Act.put, q1, q2, q3, i64_w, i32_w]
               rfl
              refine pure_ (i := 17) (N := some 20) (v := ?_) (a' := ?_) #[Nn,Nn,Nn,Nn,Yy,Nn,Nn,Nn,Nn,Nn,Yy,Nn,Nn,Nn,Nn,Nn,Nn,Yy,Nn,Nn,Nn,Nn,Nn,Nn,Nn,Nn,Nn] rfl rfl (any_of HT_.out (by kernel_rfl)) (fun _ _ _ h => h) (Or.inl ⟨by rfl, ?_⟩) ?_ ?_
              rotate_left
              ·intro w'
               go_simp
               with_reducible rfl
              rotate_left
              ·simp only [Act.put, q1, q2, q3, i64_w, i32_w]
               rfl
              refine take_ (i := 0) (N := some 3) (v := ?_) (a' := ?_) #[Yy,Nn,Nn,Nn,Yy,Nn,Nn,Nn,Nn,Nn,Yy,Nn,Nn,Nn,Nn,Nn,Nn,Yy,Nn,Nn,Nn,Nn,Nn,Nn,Nn,Nn,Nn] rfl rfl (take_ofW HT_.out HW_.out (by kernel_rfl)) (fun _ _ _ h => h) (Or.inl ⟨by rfl, ?_⟩) hHeld ?_ ?_
              rotate_left
              ·rintro w' ⟨s0, s1, s2, s3, s4, s5⟩
               go_simp
               with_reducible rfl
              rotate_left
              ·simp only [Act.put, q1, q2, q3, i64_w, i32_w]
               rfl
              refine take_ (i := 5) (N := some 8) (v := ?_) (a' := ?_) #[Yy,Nn,Nn,Nn,Yy,Yy,Nn,Nn,Nn,Nn,Yy,Nn,Nn,Nn,Nn,Nn,Nn,Yy,Nn,Nn,Nn,Nn,Nn,Nn,Nn,Nn,Nn] rfl rfl (take_ofW HT_.out HW_.out (by kernel_rfl)) (fun _ _ _ h => h) (Or.inl ⟨by rfl, ?_⟩) hHeld ?_ ?_
              rotate_left
              ·rintro w' ⟨s0, s1, s2, s3, s4, s5⟩
               go_simp
               with_reducible rfl
              rotate_left
              ·simp only [Act.put, q1, q2, q3, i64_w, i32_w]
               rfl
              refine take_ (i := 11) (N := some 14) (v := ?_) (a' := ?_) #[Yy,Nn,Nn,Nn,Yy,Yy,Nn,Nn,Nn,Nn,Yy,Yy,Nn,Nn,Nn,Nn,Nn,Yy,Nn,Nn,Nn,Nn,Nn,Nn,Nn,Nn,Nn] rfl rfl (take_ofW HT_.out HW_.out (by kernel_rfl)) (fun _ _ _ h => h) (Or.inl ⟨by rfl, ?_⟩) hHeld ?_ ?_
              rotate_left
              ·rintro w' ⟨s0, s1, s2, s3, s4, s5⟩
               go_simp
               with_reducible rfl
              rotate_left
              ·simp only [Act.put, q1, q2, q3, i64_w, i32_w]
               rfl
              refine pure_ (i := 12) (N := some 15) (v := ?_) (a' := ?_) #[Yy,Nn,Nn,Nn,Yy,Yy,Nn,Nn,Nn,Nn,Yy,Yy,Yy,Nn,Nn,Nn,Nn,Yy,Nn,Nn,Nn,Nn,Nn,Nn,Nn,Nn,Nn] rfl rfl (any_of HT_.out (by kernel_rfl)) (fun _ _ _ h => h) (Or.inl ⟨by rfl, ?_⟩) ?_ ?_
              rotate_left
              ·intro w'
               go_simp
               with_reducible rfl
              rotate_left
              ·simp only [Act.put, q1, q2, q3, i64_w, i32_w]
               rfl
              refine take_ (i := 18) (N := some 21) (v := ?_) (a' := ?_) #[Yy,Nn,Nn,Nn,Yy,Yy,Nn,Nn,Nn,Nn,Yy,Yy,Yy,Nn,Nn,Nn,Nn,Yy,Yy,Nn,Nn,Nn,Nn,Nn,Nn,Nn,Nn] rfl rfl (take_ofW HT_.out HW_.out (by kernel_rfl)) (fun _ _ _ h => h) (Or.inl ⟨by rfl, ?_⟩) hHeld ?_ ?_
              rotate_left
              ·rintro w' ⟨s0, s1, s2, s3, s4, s5⟩
               go_simp
               with_reducible rfl
              rotate_left
              ·simp only [Act.put, q1, q2, q3, i64_w, i32_w]
               rfl
              refine take_ (i := 22) (N := some 25) (v := ?_) (a' := ?_) #[Yy,Nn,Nn,Nn,Yy,Yy,Nn,Nn,Nn,Nn,Yy,Yy,Yy,Nn,Nn,Nn,Nn,Yy,Yy,Nn,Nn,Nn,Yy,Nn,Nn,Nn,Nn] rfl rfl (take_ofW HT_.out HW_.out (by kernel_rfl)) (fun _ _ _ h => h) (Or.inl ⟨by rfl, ?_⟩) hHeld ?_ ?_
              rotate_left
              ·rintro w' ⟨s0, s1, s2, s3, s4, s5⟩
               go_simp
               with_reducible rfl
              rotate_left
              ·simp only [Act.put, q1, q2, q3, i64_w, i32_w]
               rfl
              refine one_ (i := 1) (N := some 4) #[Yy,Yy,Nn,Nn,Yy,Yy,Nn,Nn,Nn,Nn,Yy,Yy,Yy,Nn,Nn,Nn,Nn,Yy,Yy,Nn,Nn,Nn,Yy,Nn,Nn,Nn,Nn] rfl rfl (one_of HT_.out (by kernel_rfl)) (by decide) (fun K hK => ?_)
              refine goes_ Tryd.func81 (by kernel_rfl) rfl #[.agg #[.int .i64 a0_0, .int .i64 a0_1, .int .i64 a0_2, .int .i64 a0_3, .int .i64 a0_4, .int .i64 a0_5]] (by rfl) rfl rfl (by (try simp only [List.map_toArray, List.map_cons, List.map_nil]); first | done | rfl | (simp only [List.length_drop, List.length_take]; rfl)) ?_
              with_reducible refine (impl_dayName.calls k a0_0 a0_1 a0_2 a0_3 a0_4 a0_5 t168 _ A2.out).mono ?_
              rintro e w23 ⟨rfl, hb⟩
              refine ⟨_, rfl, ?_⟩
              have n0_ := Aside0.mk (blk_below (g := gb167) (o := .cells #[.int .i64 a0_0, .int .i64 a0_1, .int .i64 a0_2, .int .i64 a0_3, .int .i64 a0_4, .int .i64 a0_5] 43 (0, 0)) (by (with_reducible repeat (first | refine blk_drewN ?_ _ | refine blk_drew ?_ | refine blk_alloc ?_ _)); exact BK167.out) hb)
              have n1_ := Aside0.mk (below_step (by repeat (first | (with_reducible first | exact HB.out | apply below_alloc | apply pw_below_drewN | apply below_drew1 | refine below_set ?_ GE167.out) | exact HB.out)) hb)
              clear BK167
              clear HB
              have BK167 := n0_
              have HB := n1_
              clear n0_ n1_
              (try clear hb)
              (try clear hb2)
              (try clear hk)
              (try clear hi)
              refine hK.out _ _ ⟨(blk_cell BK167.out 0).trans rfl, (blk_cell BK167.out 1).trans rfl, (blk_cell BK167.out 2).trans rfl, (blk_cell BK167.out 3).trans rfl, (blk_cell BK167.out 4).trans rfl, (blk_cell BK167.out 5).trans rfl⟩ (fun hHeld => ?_)
              clear hK K
              refine norm_ (a' := ?_) ?_ ?_
              rotate_left
              ·show Act.put _ (some 4) _ = _
               simp only [Act.put, q1, q2, q3, i64_w, i32_w]
               rfl
              refine pure_ (i := 2) (N := some 5) (v := ?_) (a' := ?_) #[Yy,Yy,Yy,Nn,Yy,Yy,Nn,Nn,Nn,Nn,Yy,Yy,Yy,Nn,Nn,Nn,Nn,Yy,Yy,Nn,Nn,Nn,Yy,Nn,Nn,Nn,Nn] rfl rfl (any_of HT_.out (by kernel_rfl)) (fun _ _ _ h => h) (Or.inl ⟨by rfl, ?_⟩) ?_ ?_
              rotate_left
              ·intro w'
               go_simp
               with_reducible rfl
              rotate_left
              ·simp only [Act.put, q1, q2, q3, i64_w, i32_w]
               rfl
              refine pure_ (i := 3) (N := some 6) (v := ?_) (a' := ?_) #[Yy,Yy,Yy,Yy,Yy,Yy,Nn,Nn,Nn,Nn,Yy,Yy,Yy,Nn,Nn,Nn,Nn,Yy,Yy,Nn,Nn,Nn,Yy,Nn,Nn,Nn,Nn] rfl rfl (any_of HT_.out (by kernel_rfl)) (fun _ _ _ h => h) (Or.inl ⟨by rfl, ?_⟩) ?_ ?_
              rotate_left
              ·intro w'
               go_simp
               with_reducible rfl
              rotate_left
              ·simp only [Act.put, q1, q2, q3, i64_w, i32_w]
               rfl
              refine one_ (i := 6) (N := some 9) #[Yy,Yy,Yy,Yy,Yy,Yy,Yy,Nn,Nn,Nn,Yy,Yy,Yy,Nn,Nn,Nn,Nn,Yy,Yy,Nn,Nn,Nn,Yy,Nn,Nn,Nn,Nn] rfl rfl (one_of HT_.out (by kernel_rfl)) (by decide) (fun K hK => ?_)
              refine goes_ Tryd.func82 (by kernel_rfl) rfl #[.int .i64 a0_2] (by rfl) rfl rfl (by (try simp only [List.map_toArray, List.map_cons, List.map_nil]); first | done | rfl | (simp only [List.length_drop, List.length_take]; rfl)) ?_
              with_reducible refine (impl_twoDigits.calls a0_2 t169 _ ?side1 A6.out).mono ?_
              (case side1 => first | (with_reducible exact HGP.out) | exact LaidP.to HGP.out (by repeat (first | (with_reducible first | exact HB.out | apply below_alloc | apply pw_below_drewN | apply below_drew1 | refine below_set ?_ GE167.out) | exact HB.out)))
              rintro e w24 ⟨rfl, hb⟩
              refine ⟨_, rfl, ?_⟩
              have n0_ := Aside0.mk (blk_below (g := gb167) (o := .cells #[.int .i64 a0_0, .int .i64 a0_1, .int .i64 a0_2, .int .i64 a0_3, .int .i64 a0_4, .int .i64 a0_5] 43 (0, 0)) (by (with_reducible repeat (first | refine blk_drewN ?_ _ | refine blk_drew ?_ | refine blk_alloc ?_ _)); exact BK167.out) hb)
              have n1_ := Aside0.mk (below_step (by repeat (first | (with_reducible first | exact HB.out | apply below_alloc | apply pw_below_drewN | apply below_drew1 | refine below_set ?_ GE167.out) | exact HB.out)) hb)
              clear BK167
              clear HB
              have BK167 := n0_
              have HB := n1_
              clear n0_ n1_
              (try clear hb)
              (try clear hb2)
              (try clear hk)
              (try clear hi)
              refine hK.out _ _ ⟨(blk_cell BK167.out 0).trans rfl, (blk_cell BK167.out 1).trans rfl, (blk_cell BK167.out 2).trans rfl, (blk_cell BK167.out 3).trans rfl, (blk_cell BK167.out 4).trans rfl, (blk_cell BK167.out 5).trans rfl⟩ (fun hHeld => ?_)
              clear hK K
              refine norm_ (a' := ?_) ?_ ?_
              rotate_left
              ·show Act.put _ (some 9) _ = _
               simp only [Act.put, q1, q2, q3, i64_w, i32_w]
               rfl
              refine pure_ (i := 7) (N := some 10) (v := ?_) (a' := ?_) #[Yy,Yy,Yy,Yy,Yy,Yy,Yy,Yy,Nn,Nn,Yy,Yy,Yy,Nn,Nn,Nn,Nn,Yy,Yy,Nn,Nn,Nn,Yy,Nn,Nn,Nn,Nn] rfl rfl (any_of HT_.out (by kernel_rfl)) (fun _ _ _ h => h) (Or.inl ⟨by rfl, ?_⟩) ?_ ?_
              rotate_left
              ·intro w'
               go_simp
               with_reducible rfl
              rotate_left
              ·simp only [Act.put, q1, q2, q3, i64_w, i32_w]
               rfl
              refine pure_ (i := 8) (N := some 11) (v := ?_) (a' := ?_) #[Yy,Yy,Yy,Yy,Yy,Yy,Yy,Yy,Yy,Nn,Yy,Yy,Yy,Nn,Nn,Nn,Nn,Yy,Yy,Nn,Nn,Nn,Yy,Nn,Nn,Nn,Nn] rfl rfl (any_of HT_.out (by kernel_rfl)) (fun _ _ _ h => h) (Or.inl ⟨by rfl, ?_⟩) ?_ ?_
              rotate_left
              ·intro w'
               go_simp
               with_reducible rfl
              rotate_left
              ·simp only [Act.put, q1, q2, q3, i64_w, i32_w]
               rfl
              refine one_ (i := 9) (N := some 12) #[Yy,Yy,Yy,Yy,Yy,Yy,Yy,Yy,Yy,Yy,Yy,Yy,Yy,Nn,Nn,Nn,Nn,Yy,Yy,Nn,Nn,Nn,Yy,Nn,Nn,Nn,Nn] rfl rfl (one_of HT_.out (by kernel_rfl)) (by decide) (fun K hK => ?_)
              refine goes_ Tryd.func83 (by kernel_rfl) rfl #[] (by rfl) rfl rfl (by (try simp only [List.map_toArray, List.map_cons, List.map_nil]); first | done | rfl | (simp only [List.length_drop, List.length_take]; rfl)) ?_
              with_reducible refine (impl_monthNames.calls  t170 _ ?side1 A9.out).mono ?_
              (case side1 => first | (with_reducible exact HGS.out) | exact LaidS.to HGS.out (by repeat (first | (with_reducible first | exact HB.out | apply below_alloc | apply pw_below_drewN | apply below_drew1 | refine below_set ?_ GE167.out) | exact HB.out)))
              rintro e w25 ⟨v171, rfl, ho0, hb⟩
              refine ⟨_, rfl, ?_⟩
              have n0_ := Aside0.mk (Kd.R_lower ho0 (below_size (by repeat (first | (with_reducible first | exact HB.out | apply below_alloc | apply pw_below_drewN | apply below_drew1 | refine below_set ?_ GE167.out) | exact HB.out))))
              have n1_ := Aside0.mk (blk_below (g := gb167) (o := .cells #[.int .i64 a0_0, .int .i64 a0_1, .int .i64 a0_2, .int .i64 a0_3, .int .i64 a0_4, .int .i64 a0_5] 43 (0, 0)) (by (with_reducible repeat (first | refine blk_drewN ?_ _ | refine blk_drew ?_ | refine blk_alloc ?_ _)); exact BK167.out) hb)
              have n2_ := Aside0.mk (below_step (by repeat (first | (with_reducible first | exact HB.out | apply below_alloc | apply pw_below_drewN | apply below_drew1 | refine below_set ?_ GE167.out) | exact HB.out)) hb)
              clear BK167
              clear HB
              have HO172 := n0_
              have BK167 := n1_
              have HB := n2_
              clear n0_ n1_ n2_
              (try clear hb)
              (try clear hb2)
              (try clear hk)
              (try clear hi)
              (try clear ho0)
              obtain ⟨Ao26, co26, eo26⟩ := Kd.R_slice HO172.out
              (first | subst eo26 | (injection eo26 with f1_ f2_ f3_; have f4_ := f1_.symm; have f5_ := f3_.symm; clear f1_ f2_ f3_; subst f4_; subst f5_))
              have p173 : 0 ≤ ((ji10) : Int) := of_decide_eq_true (by first | (with_reducible assumption) | assumption)
              have q173 : (ji10) < (t170.length : Int) := of_decide_eq_true (by first | (with_reducible assumption) | assumption)
              obtain ⟨ad173, e173, hx173_0⟩ := Kd.at_string (Kd.R_reads' HO172.out).2.2 (ji10) p173 q173
              cases e173
              replace p173 := eq_true p173
              replace q173 := eq_true q173
              refine hK.out _ _ ⟨(blk_cell BK167.out 0).trans rfl, (blk_cell BK167.out 1).trans rfl, (blk_cell BK167.out 2).trans rfl, (blk_cell BK167.out 3).trans rfl, (blk_cell BK167.out 4).trans rfl, (blk_cell BK167.out 5).trans rfl⟩ (fun hHeld => ?_)
              refine impl_dateText.more_ (S' := fun w' => w'.cell? ⟨gb167, 0, none⟩ = some (.int .i64 a0_0) ∧ w'.cell? ⟨gb167, 1, none⟩ = some (.int .i64 a0_1) ∧ w'.cell? ⟨gb167, 2, none⟩ = some (.int .i64 a0_2) ∧ w'.cell? ⟨gb167, 3, none⟩ = some (.int .i64 a0_3) ∧ w'.cell? ⟨gb167, 4, none⟩ = some (.int .i64 a0_4) ∧ w'.cell? ⟨gb167, 5, none⟩ = some (.int .i64 a0_5) ∧ w'.cell? (ad173.add ((ji10)).toNat) = some (.string (rdOf ByteArray.empty t170 (ji10)))) (fun _ h => ⟨h.1, h.2.1, h.2.2.1, h.2.2.2.1, h.2.2.2.2.1, h.2.2.2.2.2.1⟩) ⟨hHeld.1, hHeld.2.1, hHeld.2.2.1, hHeld.2.2.2.1, hHeld.2.2.2.2.1, hHeld.2.2.2.2.2, hx173_0⟩ (fun hHeld => ?_)
              clear hK K
              refine norm_ (a' := ?_) ?_ ?_
              rotate_left
              ·show Act.put _ (some 12) _ = _
               simp only [Act.put, q1, q2, q3, i64_w, i32_w]
               rfl
              refine pure_ (i := 13) (N := some 16) (v := ?_) (a' := ?_) #[Yy,Yy,Yy,Yy,Yy,Yy,Yy,Yy,Yy,Yy,Yy,Yy,Yy,Yy,Nn,Nn,Nn,Yy,Yy,Nn,Nn,Nn,Yy,Nn,Nn,Nn,Nn] rfl rfl (any_of HT_.out (by kernel_rfl)) (fun _ _ _ h => h) (Or.inl ⟨by rfl, ?_⟩) ?_ ?_
              rotate_left
              ·intro w'
               go_simp
               with_reducible rfl
              rotate_left
              ·simp only [Act.put, q1, q2, q3, i64_w, i32_w]
               rfl
              refine take_ (i := 14) (N := some 17) (v := ?_) (a' := ?_) #[Yy,Yy,Yy,Yy,Yy,Yy,Yy,Yy,Yy,Yy,Yy,Yy,Yy,Yy,Yy,Nn,Nn,Yy,Yy,Nn,Nn,Nn,Yy,Nn,Nn,Nn,Nn] rfl rfl (take_ofW HT_.out HW_.out (by kernel_rfl)) (fun _ _ _ h => h) (Or.inl ⟨by rfl, ?_⟩) hHeld ?_ ?_
              rotate_left
              ·rintro w' ⟨s0, s1, s2, s3, s4, s5, s6⟩
               go_simp
               with_reducible rfl
              rotate_left
              ·simp only [Act.put, q1, q2, q3, i64_w, i32_w]
               rfl
              refine pure_ (i := 15) (N := some 18) (v := ?_) (a' := ?_) #[Yy,Yy,Yy,Yy,Yy,Yy,Yy,Yy,Yy,Yy,Yy,Yy,Yy,Yy,Yy,Yy,Nn,Yy,Yy,Nn,Nn,Nn,Yy,Nn,Nn,Nn,Nn] rfl rfl (any_of HT_.out (by kernel_rfl)) (fun _ _ _ h => h) (Or.inl ⟨by rfl, ?_⟩) ?_ ?_
              rotate_left
              ·intro w'
               go_simp
               with_reducible rfl
              rotate_left
              ·simp only [Act.put, q1, q2, q3, i64_w, i32_w]
               rfl
              refine pure_ (i := 16) (N := some 19) (v := ?_) (a' := ?_) #[Yy,Yy,Yy,Yy,Yy,Yy,Yy,Yy,Yy,Yy,Yy,Yy,Yy,Yy,Yy,Yy,Yy,Yy,Yy,Nn,Nn,Nn,Yy,Nn,Nn,Nn,Nn] rfl rfl (any_of HT_.out (by kernel_rfl)) (fun _ _ _ h => h) (Or.inl ⟨by rfl, ?_⟩) ?_ ?_
              rotate_left
              ·intro w'
               go_simp
               with_reducible rfl
              rotate_left
              ·simp only [Act.put, q1, q2, q3, i64_w, i32_w]
               rfl
              refine one_ (i := 19) (N := some 22) #[Yy,Yy,Yy,Yy,Yy,Yy,Yy,Yy,Yy,Yy,Yy,Yy,Yy,Yy,Yy,Yy,Yy,Yy,Yy,Yy,Nn,Nn,Yy,Nn,Nn,Nn,Nn] rfl rfl (one_of HT_.out (by kernel_rfl)) (by decide) (fun K hK => ?_)
              refine goes_ Tryd.func65 (by kernel_rfl) rfl #[.int .i64 a0_0] (by rfl) rfl rfl (by (try simp only [List.map_toArray, List.map_cons, List.map_nil]); first | done | rfl | (simp only [List.length_drop, List.length_take]; rfl)) ?_
              with_reducible refine (strconv_Itoa.calls a0_0 t174 _ ?side1 A15.out).mono ?_
              (case side1 => first | (with_reducible exact HGP.out) | exact LaidP.to HGP.out (by repeat (first | (with_reducible first | exact HB.out | apply below_alloc | apply pw_below_drewN | apply below_drew1 | refine below_set ?_ GE167.out) | exact HB.out)))
              rintro e w27 ⟨rfl, hb⟩
              have HS6_ := (hb.cell (World.block_lt_of_cell? _ _ (hHeld.2.2.2.2.2.2))).trans (hHeld.2.2.2.2.2.2)
              refine ⟨_, rfl, ?_⟩
              have n0_ := Aside0.mk (Kd.R_below (by (with_reducible repeat (first | apply Kd.R_alloc | apply Kd.R_drewN | apply Kd.R_drew)); exact HO172.out) hb)
              have n1_ := Aside0.mk (blk_below (g := gb167) (o := .cells #[.int .i64 a0_0, .int .i64 a0_1, .int .i64 a0_2, .int .i64 a0_3, .int .i64 a0_4, .int .i64 a0_5] 43 (0, 0)) (by (with_reducible repeat (first | refine blk_drewN ?_ _ | refine blk_drew ?_ | refine blk_alloc ?_ _)); exact BK167.out) hb)
              have n2_ := Aside0.mk (below_step (by repeat (first | (with_reducible first | exact HB.out | apply below_alloc | apply pw_below_drewN | apply below_drew1 | refine below_set ?_ GE167.out) | exact HB.out)) hb)
              clear HO172
              clear BK167
              clear HB
              have HO172 := n0_
              have BK167 := n1_
              have HB := n2_
              clear n0_ n1_ n2_
              (try clear hb)
              (try clear hb2)
              (try clear hk)
              (try clear hi)
              refine hK.out _ _ ⟨(blk_cell BK167.out 0).trans rfl, (blk_cell BK167.out 1).trans rfl, (blk_cell BK167.out 2).trans rfl, (blk_cell BK167.out 3).trans rfl, (blk_cell BK167.out 4).trans rfl, (blk_cell BK167.out 5).trans rfl, HS6_⟩ (fun hHeld => ?_)
              clear hK K
              refine norm_ (a' := ?_) ?_ ?_
              rotate_left
              ·show Act.put _ (some 22) _ = _
               simp only [Act.put, q1, q2, q3, i64_w, i32_w]
               rfl
              refine pure_ (i := 20) (N := some 23) (v := ?_) (a' := ?_) #[Yy,Yy,Yy,Yy,Yy,Yy,Yy,Yy,Yy,Yy,Yy,Yy,Yy,Yy,Yy,Yy,Yy,Yy,Yy,Yy,Yy,Nn,Yy,Nn,Nn,Nn,Nn] rfl rfl (any_of HT_.out (by kernel_rfl)) (fun _ _ _ h => h) (Or.inl ⟨by rfl, ?_⟩) ?_ ?_
              rotate_left
              ·intro w'
               go_simp
               with_reducible rfl
              rotate_left
              ·simp only [Act.put, q1, q2, q3, i64_w, i32_w]
               rfl
              refine pure_ (i := 21) (N := some 24) (v := ?_) (a' := ?_) #[Yy,Yy,Yy,Yy,Yy,Yy,Yy,Yy,Yy,Yy,Yy,Yy,Yy,Yy,Yy,Yy,Yy,Yy,Yy,Yy,Yy,Yy,Yy,Nn,Nn,Nn,Nn] rfl rfl (any_of HT_.out (by kernel_rfl)) (fun _ _ _ h => h) (Or.inl ⟨by rfl, ?_⟩) ?_ ?_
              rotate_left
              ·intro w'
               go_simp
               with_reducible rfl
              rotate_left
              ·simp only [Act.put, q1, q2, q3, i64_w, i32_w]
               rfl
              refine one_ (i := 23) (N := some 26) #[Yy,Yy,Yy,Yy,Yy,Yy,Yy,Yy,Yy,Yy,Yy,Yy,Yy,Yy,Yy,Yy,Yy,Yy,Yy,Yy,Yy,Yy,Yy,Yy,Nn,Nn,Nn] rfl rfl (one_of HT_.out (by kernel_rfl)) (by decide) (fun K hK => ?_)
              refine goes_ Tryd.func84 (by kernel_rfl) rfl #[.agg #[.int .i64 a0_0, .int .i64 a0_1, .int .i64 a0_2, .int .i64 a0_3, .int .i64 a0_4, .int .i64 a0_5]] (by rfl) rfl rfl (by (try simp only [List.map_toArray, List.map_cons, List.map_nil]); first | done | rfl | (simp only [List.length_drop, List.length_take]; rfl)) ?_
              with_reducible refine (impl_clockText.calls a0_0 a0_1 a0_2 a0_3 a0_4 a0_5 t175 _ ?side1 A18.out).mono ?_
              (case side1 => first | (with_reducible exact HGP.out) | exact LaidP.to HGP.out (by repeat (first | (with_reducible first | exact HB.out | apply below_alloc | apply pw_below_drewN | apply below_drew1 | refine below_set ?_ GE167.out) | exact HB.out)))
              rintro e w28 ⟨rfl, hb⟩
              have HS6_ := (hb.cell (World.block_lt_of_cell? _ _ (hHeld.2.2.2.2.2.2))).trans (hHeld.2.2.2.2.2.2)
              refine ⟨_, rfl, ?_⟩
              have n0_ := Aside0.mk (Kd.R_below (by (with_reducible repeat (first | apply Kd.R_alloc | apply Kd.R_drewN | apply Kd.R_drew)); exact HO172.out) hb)
              have n1_ := Aside0.mk (blk_below (g := gb167) (o := .cells #[.int .i64 a0_0, .int .i64 a0_1, .int .i64 a0_2, .int .i64 a0_3, .int .i64 a0_4, .int .i64 a0_5] 43 (0, 0)) (by (with_reducible repeat (first | refine blk_drewN ?_ _ | refine blk_drew ?_ | refine blk_alloc ?_ _)); exact BK167.out) hb)
              have n2_ := Aside0.mk (below_step (by repeat (first | (with_reducible first | exact HB.out | apply below_alloc | apply pw_below_drewN | apply below_drew1 | refine below_set ?_ GE167.out) | exact HB.out)) hb)
              clear HO172
              clear BK167
              clear HB
              have HO172 := n0_
              have BK167 := n1_
              have HB := n2_
              clear n0_ n1_ n2_
              (try clear hb)
              (try clear hb2)
              (try clear hk)
              (try clear hi)
              refine hK.out _ _ ⟨(blk_cell BK167.out 0).trans rfl, (blk_cell BK167.out 1).trans rfl, (blk_cell BK167.out 2).trans rfl, (blk_cell BK167.out 3).trans rfl, (blk_cell BK167.out 4).trans rfl, (blk_cell BK167.out 5).trans rfl, HS6_⟩ (fun hHeld => ?_)
              clear hK K
              refine norm_ (a' := ?_) ?_ ?_
              rotate_left
              ·show Act.put _ (some 26) _ = _
               simp only [Act.put, q1, q2, q3, i64_w, i32_w]
               rfl
              refine pure_ (i := 24) (N := some 27) (v := ?_) (a' := ?_) #[Yy,Yy,Yy,Yy,Yy,Yy,Yy,Yy,Yy,Yy,Yy,Yy,Yy,Yy,Yy,Yy,Yy,Yy,Yy,Yy,Yy,Yy,Yy,Yy,Yy,Nn,Nn] rfl rfl (any_of HT_.out (by kernel_rfl)) (fun _ _ _ h => h) (Or.inl ⟨by rfl, ?_⟩) ?_ ?_
              rotate_left
              ·intro w'
               go_simp
               with_reducible rfl
              rotate_left
              ·simp only [Act.put, q1, q2, q3, i64_w, i32_w]
               rfl
              refine pure_ (i := 25) (N := some 28) (v := ?_) (a' := ?_) #[Yy,Yy,Yy,Yy,Yy,Yy,Yy,Yy,Yy,Yy,Yy,Yy,Yy,Yy,Yy,Yy,Yy,Yy,Yy,Yy,Yy,Yy,Yy,Yy,Yy,Yy,Nn] rfl rfl (any_of HT_.out (by kernel_rfl)) (fun _ _ _ h => h) (Or.inl ⟨by rfl, ?_⟩) ?_ ?_
              rotate_left
              ·intro w'
               go_simp
               with_reducible rfl
              rotate_left
              ·simp only [Act.put, q1, q2, q3, i64_w, i32_w]
               rfl
              refine pure_ (i := 26) (N := some 2) (v := ?_) (a' := ?_) #[Yy,Yy,Yy,Yy,Yy,Yy,Yy,Yy,Yy,Yy,Yy,Yy,Yy,Yy,Yy,Yy,Yy,Yy,Yy,Yy,Yy,Yy,Yy,Yy,Yy,Yy,Yy] rfl rfl (any_of HT_.out (by kernel_rfl)) (fun _ _ _ h => h) (Or.inl ⟨by rfl, ?_⟩) ?_ ?_
              rotate_left
              ·intro w'
               go_simp
               with_reducible rfl
              rotate_left
              ·simp only [Act.put, q1, q2, q3, i64_w, i32_w]
               rfl
              refine done_ (done_of HT_.out (by kernel_rfl)) ?_
              try go_wp2
              go_ret
              exact ⟨by first | rfl | (simp [errW_none, errW_some] <;> rfl) | (simp only [← hji10]; first | rfl | (simp [errW_none, errW_some] <;> rfl)) | (simp [*, errW_none, errW_some] <;> rfl) | (simp [r1, r2, r3, r4]; done), by repeat (first | (with_reducible first | exact HB.out | apply below_alloc | apply pw_below_drewN | apply below_drew1 | refine below_set ?_ GE167.out) | exact HB.out)⟩
             ·rw [if_neg c20] at H
              exact absurd H (by simp)
            ·rw [if_neg c19] at H
             exact absurd H (by simp)
           ·rw [if_neg c17] at H
            exact absurd H (by simp)
          ·rw [if_neg c16] at H
           exact absurd H (by simp)
         ·rw [if_neg c14] at H
          exact absurd H (by simp)
        ·rw [if_neg c13] at H
         exact absurd H (by simp)
       ·rw [if_neg c12] at H
        exact absurd H (by simp)
      ·rw [if_neg c11] at H
       exact absurd H (by simp)
     ·rw [if_neg c8] at H
      exact absurd H (by simp)
    ·rw [if_neg c7] at H
     exact absurd H (by simp)
   ·rw [if_neg c5] at H
    exact absurd H (by simp)
  ·rw [if_neg c4] at H
   exact absurd H (by simp)
 ·rw [if_neg c3] at H
  exact absurd H (by simp)

/-! ### impl_DateText: function 27 -/
def impl_DateText.f (k : Nat) (a0_0 : Int) (a0_1 : Int) (a0_2 : Int) (a0_3 : Int) (a0_4 : Int) (a0_5 : Int) : Option (ByteArray × Bool) := (impl_GoodDate.f a0_0 a0_1 a0_2 a0_3 a0_4 a0_5).bind fun t177 => (if t177 = true then ((impl_dateText.f k a0_0 a0_1 a0_2 a0_3 a0_4 a0_5).bind fun t178 => (some (t178, true))) else (some ((⟨#[]⟩ : ByteArray), false)))
theorem impl_DateText.mono : ∀ a0 a1 a2 a3 a4 a5 k, LeO (impl_DateText.f k a0 a1 a2 a3 a4 a5) (impl_DateText.f (k + 1) a0 a1 a2 a3 a4 a5) := by
 intro a0 a1 a2 a3 a4 a5 k
 unfold impl_DateText.f
 repeat' first
   | (with_reducible exact impl_dateText.mono _ _ _ _ _ _ _)
   | (with_reducible exact LeO.refl _)
   | (with_reducible exact LeO.none _)
   | (with_reducible refine LeO.ite ?_ ?_)
   | (with_reducible refine LeO.bind ?_ (fun _ => ?_))
   | exact impl_dateText.mono _ _ _ _ _ _ _
   | exact LeO.none _
   | refine LeO.ite ?_ ?_
   | refine LeO.bind ?_ (fun _ => ?_)
set_option maxHeartbeats 8000000 in
set_option maxRecDepth 100000 in
theorem impl_DateText.calls (k : Nat) (a0_0 : Int) (a0_1 : Int) (a0_2 : Int) (a0_3 : Int) (a0_4 : Int) (a0_5 : Int) (r1 : ByteArray) (r2 : Bool) (w : World) (hgP : LaidP w) (hgS : LaidS w) (h : impl_DateText.f k a0_0 a0_1 a0_2 a0_3 a0_4 a0_5 = some (r1, r2)) :
  Calls Tryd.prog 27 #[.agg #[.int .i64 a0_0, .int .i64 a0_1, .int .i64 a0_2, .int .i64 a0_3, .int .i64 a0_4, .int .i64 a0_5]] w fun e w' => e = .returned (.tuple #[.string r1, .bool r2]) ∧ Below w.heap.size w w' := by
 have hu43 := Tryd.underlying43
 have HGP := Aside0.mk hgP
 clear hgP
 have HGS := Aside0.mk hgS
 clear hgS
 have HB := Aside0.mk (Below.refl w.heap.size w)
 have H : ((impl_GoodDate.f a0_0 a0_1 a0_2 a0_3 a0_4 a0_5).bind fun t177 => (if t177 = true then ((impl_dateText.f k a0_0 a0_1 a0_2 a0_3 a0_4 a0_5).bind fun t178 => (some (t178, true))) else (some ((⟨#[]⟩ : ByteArray), false)))) = some (r1, r2) := h
 clear h
 replace H := Option.bind_eq_some_iff.mp H
 obtain ⟨t177, A20, H⟩ := H
 replace H : (if t177 = true then ((impl_dateText.f k a0_0 a0_1 a0_2 a0_3 a0_4 a0_5).bind fun t178 => (some (t178, true))) else (some ((⟨#[]⟩ : ByteArray), false))) = some (r1, r2) := H
 have A2 := Aside0.mk A20
 clear A20
 by_cases c3 : t177 = true
 ·subst c3
  have H1 : ((impl_dateText.f k a0_0 a0_1 a0_2 a0_3 a0_4 a0_5).bind fun t178 => (some (t178, true))) = some (r1, r2) := by rw [if_pos rfl] at H; exact H
  clear H
  have H := H1
  clear H1
  replace H := Option.bind_eq_some_iff.mp H
  obtain ⟨t178, A40, H⟩ := H
  replace H : (some (t178, true)) = some (r1, r2) := H
  have A4 := Aside0.mk A40
  clear A40
  simp only [Option.some.injEq, Prod.mk.injEq] at H
  obtain ⟨rfl, rfl⟩ := H
  go_enter Tryd.func27, Tryd.ntmps27
  go_wp2_with (first | ((with_reducible refine gate_dst (N := 1) rfl ?_); refine box_event ?hg (N := 1) ?hd (cs := #[.int .i64 a0_0, .int .i64 a0_1, .int .i64 a0_2, .int .i64 a0_3, .int .i64 a0_4, .int .i64 a0_5]) (t := 43) ?hr ?_; (case hd => rfl); (case hg => rfl); (case hr => first | (go_simp; done) | (go_simp; rfl)); intro gb176 hg w5 hbox hb; have n0_ := Aside0.mk (bstep hb); have n1_ := Aside0.mk (hbox); have n2_ := Aside0.mk ((by rw [hg]; exact bsize : w.heap.size ≤ gb176)); have n3_ := Aside0.mk ((by rw [hg]; exact bsize : w.heap.size ≤ gb176)); clear HB; have HB := n0_; have BK176 := n1_; have GW176 := n2_; have GE176 := n3_; clear n0_ n1_ n2_ n3_; clear hb hbox hg; obtain ⟨hcz6_0, hcz6_1, hcz6_2, hcz6_3, hcz6_4, hcz6_5⟩ := bc6 BK176.out; obtain ⟨hfz6_0, hfz6_1, hfz6_2, hfz6_3, hfz6_4, hfz6_5⟩ := bf6 BK176.out) | ((with_reducible refine gate_callee (f := 49) rfl ?_); refine goesL_ (some 5) rfl rfl Tryd.func49 (by kernel_rfl) rfl #[.agg #[.int .i64 a0_0, .int .i64 a0_1, .int .i64 a0_2, .int .i64 a0_3, .int .i64 a0_4, .int .i64 a0_5]] rfl (by (try simp only [List.map_toArray, List.map_cons, List.map_nil]); first | done | rfl | (simp only [List.length_drop, List.length_take]; rfl)) ?_; (with_reducible refine (impl_GoodDate.calls a0_0 a0_1 a0_2 a0_3 a0_4 a0_5 true _ A2.out).mono ?_); rintro e w7 ⟨rfl, hb⟩; refine ⟨_, rfl, ?_⟩; have n0_ := Aside0.mk (blk_below (g := gb176) (o := .cells #[.int .i64 a0_0, .int .i64 a0_1, .int .i64 a0_2, .int .i64 a0_3, .int .i64 a0_4, .int .i64 a0_5] 43 (0, 0)) (by (with_reducible repeat (first | refine blk_drewN ?_ _ | refine blk_drew ?_ | refine blk_alloc ?_ _)); exact BK176.out) hb); have n1_ := Aside0.mk (below_step (by repeat (first | (with_reducible first | exact HB.out | apply below_alloc | apply pw_below_drewN | apply below_drew1 | refine below_set ?_ GE176.out) | exact HB.out)) hb); clear BK176; clear HB; have BK176 := n0_; have HB := n1_; clear n0_ n1_; (try clear hb); (try clear hb2); (try clear hk); (try clear hi); obtain ⟨hcz8_0, hcz8_1, hcz8_2, hcz8_3, hcz8_4, hcz8_5⟩ := bc6 BK176.out; obtain ⟨hfz8_0, hfz8_1, hfz8_2, hfz8_3, hfz8_4, hfz8_5⟩ := bf6 BK176.out) | ((with_reducible refine gate_callee (f := 50) rfl ?_); refine goesL_ (some 8) rfl rfl Tryd.func50 (by kernel_rfl) rfl #[.agg #[.int .i64 a0_0, .int .i64 a0_1, .int .i64 a0_2, .int .i64 a0_3, .int .i64 a0_4, .int .i64 a0_5]] rfl (by (try simp only [List.map_toArray, List.map_cons, List.map_nil]); first | done | rfl | (simp only [List.length_drop, List.length_take]; rfl)) ?_; (with_reducible refine (impl_dateText.calls k a0_0 a0_1 a0_2 a0_3 a0_4 a0_5 t178 _ ?side1 ?side2 A4.out).mono ?_); (case side1 => first | (with_reducible exact HGP.out) | exact LaidP.to HGP.out (by repeat (first | (with_reducible first | exact HB.out | apply below_alloc | apply pw_below_drewN | apply below_drew1 | refine below_set ?_ GE176.out) | exact HB.out))); (case side2 => first | (with_reducible exact HGS.out) | exact LaidS.to HGS.out (by repeat (first | (with_reducible first | exact HB.out | apply below_alloc | apply pw_below_drewN | apply below_drew1 | refine below_set ?_ GE176.out) | exact HB.out))); rintro e w9 ⟨rfl, hb⟩; refine ⟨_, rfl, ?_⟩; have n0_ := Aside0.mk (blk_below (g := gb176) (o := .cells #[.int .i64 a0_0, .int .i64 a0_1, .int .i64 a0_2, .int .i64 a0_3, .int .i64 a0_4, .int .i64 a0_5] 43 (0, 0)) (by (with_reducible repeat (first | refine blk_drewN ?_ _ | refine blk_drew ?_ | refine blk_alloc ?_ _)); exact BK176.out) hb); have n1_ := Aside0.mk (below_step (by repeat (first | (with_reducible first | exact HB.out | apply below_alloc | apply pw_below_drewN | apply below_drew1 | refine below_set ?_ GE176.out) | exact HB.out)) hb); clear BK176; clear HB; have BK176 := n0_; have HB := n1_; clear n0_ n1_; (try clear hb); (try clear hb2); (try clear hk); (try clear hi)))
  go_ret2
  exact ⟨by first | rfl | (simp [errW_none, errW_some] <;> rfl) | (simp [*, errW_none, errW_some] <;> rfl) | (simp [r1, r2, r3, r4]; done), by repeat (first | (with_reducible first | exact HB.out | apply below_alloc | apply pw_below_drewN | apply below_drew1 | refine below_set ?_ GE176.out) | exact HB.out)⟩
 ·replace c3 := Bool.eq_false_iff.mpr c3
  subst c3
  have H1 : (some ((⟨#[]⟩ : ByteArray), false)) = some (r1, r2) := by rw [if_neg (show ¬ (false = true) by decide)] at H; exact H
  clear H
  have H := H1
  clear H1
  simp only [Option.some.injEq, Prod.mk.injEq] at H
  obtain ⟨rfl, rfl⟩ := H
  go_enter Tryd.func27, Tryd.ntmps27
  go_wp2_with (first | ((with_reducible refine gate_dst (N := 1) rfl ?_); refine box_event ?hg (N := 1) ?hd (cs := #[.int .i64 a0_0, .int .i64 a0_1, .int .i64 a0_2, .int .i64 a0_3, .int .i64 a0_4, .int .i64 a0_5]) (t := 43) ?hr ?_; (case hd => rfl); (case hg => rfl); (case hr => first | (go_simp; done) | (go_simp; rfl)); intro gb176 hg w10 hbox hb; have n0_ := Aside0.mk (bstep hb); have n1_ := Aside0.mk (hbox); have n2_ := Aside0.mk ((by rw [hg]; exact bsize : w.heap.size ≤ gb176)); have n3_ := Aside0.mk ((by rw [hg]; exact bsize : w.heap.size ≤ gb176)); clear HB; have HB := n0_; have BK176 := n1_; have GW176 := n2_; have GE176 := n3_; clear n0_ n1_ n2_ n3_; clear hb hbox hg; obtain ⟨hcz11_0, hcz11_1, hcz11_2, hcz11_3, hcz11_4, hcz11_5⟩ := bc6 BK176.out; obtain ⟨hfz11_0, hfz11_1, hfz11_2, hfz11_3, hfz11_4, hfz11_5⟩ := bf6 BK176.out) | ((with_reducible refine gate_callee (f := 49) rfl ?_); refine goesL_ (some 5) rfl rfl Tryd.func49 (by kernel_rfl) rfl #[.agg #[.int .i64 a0_0, .int .i64 a0_1, .int .i64 a0_2, .int .i64 a0_3, .int .i64 a0_4, .int .i64 a0_5]] rfl (by (try simp only [List.map_toArray, List.map_cons, List.map_nil]); first | done | rfl | (simp only [List.length_drop, List.length_take]; rfl)) ?_; (with_reducible refine (impl_GoodDate.calls a0_0 a0_1 a0_2 a0_3 a0_4 a0_5 false _ A2.out).mono ?_); rintro e w12 ⟨rfl, hb⟩; refine ⟨_, rfl, ?_⟩; have n0_ := Aside0.mk (blk_below (g := gb176) (o := .cells #[.int .i64 a0_0, .int .i64 a0_1, .int .i64 a0_2, .int .i64 a0_3, .int .i64 a0_4, .int .i64 a0_5] 43 (0, 0)) (by (with_reducible repeat (first | refine blk_drewN ?_ _ | refine blk_drew ?_ | refine blk_alloc ?_ _)); exact BK176.out) hb); have n1_ := Aside0.mk (below_step (by repeat (first | (with_reducible first | exact HB.out | apply below_alloc | apply pw_below_drewN | apply below_drew1 | refine below_set ?_ GE176.out) | exact HB.out)) hb); clear BK176; clear HB; have BK176 := n0_; have HB := n1_; clear n0_ n1_; (try clear hb); (try clear hb2); (try clear hk); (try clear hi)))
  go_ret2
  exact ⟨by first | rfl | (simp [errW_none, errW_some] <;> rfl) | (simp [*, errW_none, errW_some] <;> rfl) | (simp [r1, r2, r3, r4]; done), by repeat (first | (with_reducible first | exact HB.out | apply below_alloc | apply pw_below_drewN | apply below_drew1 | refine below_set ?_ GE176.out) | exact HB.out)⟩

/-! ### laws_FnExactDateText: function 9 -/
def laws_FnExactDateText.f (k : Nat) (a0_0 : Int) (a0_1 : Int) (a0_2 : Int) (a0_3 : Int) (a0_4 : Int) (a0_5 : Int) : Option (Bool) := (laws_toDate.f a0_0 a0_1 a0_2 a0_3 a0_4 a0_5).bind fun bt180 => ((spec_DateText.f k bt180.1 bt180.2.1 bt180.2.2.1 bt180.2.2.2.1 bt180.2.2.2.2.1 bt180.2.2.2.2.2).bind fun bt186 => ((laws_toDate.f a0_0 a0_1 a0_2 a0_3 a0_4 a0_5).bind fun bt188 => ((impl_DateText.f k bt188.1 bt188.2.1 bt188.2.2.1 bt188.2.2.2.1 bt188.2.2.2.2.1 bt188.2.2.2.2.2).bind fun bt194 => (if bt194.1.toList = bt186.1.toList then (if (bt194.2 != bt186.2) = true then (some false) else (some true)) else (some false)))))
theorem laws_FnExactDateText.mono : ∀ a0 a1 a2 a3 a4 a5 k, LeO (laws_FnExactDateText.f k a0 a1 a2 a3 a4 a5) (laws_FnExactDateText.f (k + 1) a0 a1 a2 a3 a4 a5) := by
 intro a0 a1 a2 a3 a4 a5 k
 unfold laws_FnExactDateText.f
 repeat' first
   | (with_reducible exact impl_DateText.mono _ _ _ _ _ _ _)
   | (with_reducible exact spec_DateText.mono _ _ _ _ _ _ _)
   | (with_reducible exact LeO.refl _)
   | (with_reducible exact LeO.none _)
   | (with_reducible refine LeO.ite ?_ ?_)
   | (with_reducible refine LeO.bind ?_ (fun _ => ?_))
   | exact impl_DateText.mono _ _ _ _ _ _ _
   | exact spec_DateText.mono _ _ _ _ _ _ _
   | exact LeO.none _
   | refine LeO.ite ?_ ?_
   | refine LeO.bind ?_ (fun _ => ?_)
set_option maxHeartbeats 8000000 in
set_option maxRecDepth 100000 in
theorem laws_FnExactDateText.calls (k : Nat) (a0_0 : Int) (a0_1 : Int) (a0_2 : Int) (a0_3 : Int) (a0_4 : Int) (a0_5 : Int) (r : Bool) (w : World) (hgP : LaidP w) (hgS : LaidS w) (h : laws_FnExactDateText.f k a0_0 a0_1 a0_2 a0_3 a0_4 a0_5 = some r) :
  Calls Tryd.prog 9 #[.agg #[.int .i64 a0_0, .int .i64 a0_1, .int .i64 a0_2, .int .i64 a0_3, .int .i64 a0_4, .int .i64 a0_5]] w fun e w' => e = .returned (.bool r) ∧ Below w.heap.size w w' := by
 have hu41 := Tryd.underlying41
 have HGP := Aside0.mk hgP
 clear hgP
 have HGS := Aside0.mk hgS
 clear hgS
 have HB := Aside0.mk (Below.refl w.heap.size w)
 have H : ((laws_toDate.f a0_0 a0_1 a0_2 a0_3 a0_4 a0_5).bind fun bt180 => ((spec_DateText.f k bt180.1 bt180.2.1 bt180.2.2.1 bt180.2.2.2.1 bt180.2.2.2.2.1 bt180.2.2.2.2.2).bind fun bt186 => ((laws_toDate.f a0_0 a0_1 a0_2 a0_3 a0_4 a0_5).bind fun bt188 => ((impl_DateText.f k bt188.1 bt188.2.1 bt188.2.2.1 bt188.2.2.2.1 bt188.2.2.2.2.1 bt188.2.2.2.2.2).bind fun bt194 => (if bt194.1.toList = bt186.1.toList then (if (bt194.2 != bt186.2) = true then (some false) else (some true)) else (some false)))))) = some r := h
 clear h
 replace H := Option.bind_eq_some_iff.mp H
 obtain ⟨⟨t180, t181, t182, t183, t184, t185⟩, A20, H⟩ := H
 replace H : ((spec_DateText.f k t180 t181 t182 t183 t184 t185).bind fun bt186 => ((laws_toDate.f a0_0 a0_1 a0_2 a0_3 a0_4 a0_5).bind fun bt188 => ((impl_DateText.f k bt188.1 bt188.2.1 bt188.2.2.1 bt188.2.2.2.1 bt188.2.2.2.2.1 bt188.2.2.2.2.2).bind fun bt194 => (if bt194.1.toList = bt186.1.toList then (if (bt194.2 != bt186.2) = true then (some false) else (some true)) else (some false))))) = some r := H
 have A2 := Aside0.mk A20
 clear A20
 replace H := Option.bind_eq_some_iff.mp H
 obtain ⟨⟨t186, t187⟩, A30, H⟩ := H
 replace H : ((laws_toDate.f a0_0 a0_1 a0_2 a0_3 a0_4 a0_5).bind fun bt188 => ((impl_DateText.f k bt188.1 bt188.2.1 bt188.2.2.1 bt188.2.2.2.1 bt188.2.2.2.2.1 bt188.2.2.2.2.2).bind fun bt194 => (if bt194.1.toList = t186.toList then (if (bt194.2 != t187) = true then (some false) else (some true)) else (some false)))) = some r := H
 have A3 := Aside0.mk A30
 clear A30
 replace H := Option.bind_eq_some_iff.mp H
 obtain ⟨⟨t188, t189, t190, t191, t192, t193⟩, A40, H⟩ := H
 replace H : ((impl_DateText.f k t188 t189 t190 t191 t192 t193).bind fun bt194 => (if bt194.1.toList = t186.toList then (if (bt194.2 != t187) = true then (some false) else (some true)) else (some false))) = some r := H
 have A4 := Aside0.mk A40
 clear A40
 replace H := Option.bind_eq_some_iff.mp H
 obtain ⟨⟨t194, t195⟩, A50, H⟩ := H
 replace H : (if t194.toList = t186.toList then (if (t195 != t187) = true then (some false) else (some true)) else (some false)) = some r := H
 have A5 := Aside0.mk A50
 clear A50
 by_cases c6 : t194.toList = t186.toList
 ·rw [if_pos c6] at H
  have c6b0 : (t194.toList == t186.toList) = true := beq_iff_eq.mpr c6
  have c6b1 : (t194.toList != t186.toList) = false := bne_eq_false_iff_eq.mpr c6
  clear c6
  by_cases c7 : (t195 != t187) = true
  ·rw [if_pos c7] at H
   have c7b0 : (t195 != t187) = true := c7
   (try (have c7b1 : decide (t195 = t187) = false := by simpa using c7))
   (try (have c7b2 : (t195 == t187) = false := by simpa using c7))
   (try (have c7b3 : ¬ (t195 = t187) := by simpa using c7))
   clear c7
   obtain rfl := Option.some.inj H
   go_enter Tryd.func9, Tryd.ntmps9
   go_wp2_with (first | ((with_reducible refine gate_dst (N := 1) rfl ?_); refine box_event ?hg (N := 1) ?hd (cs := #[.int .i64 a0_0, .int .i64 a0_1, .int .i64 a0_2, .int .i64 a0_3, .int .i64 a0_4, .int .i64 a0_5]) (t := 41) ?hr ?_; (case hd => rfl); (case hg => rfl); (case hr => first | (go_simp; done) | (go_simp; rfl)); intro gb179 hg w8 hbox hb; have n0_ := Aside0.mk (bstep hb); have n1_ := Aside0.mk (hbox); have n2_ := Aside0.mk ((by rw [hg]; exact bsize : w.heap.size ≤ gb179)); have n3_ := Aside0.mk ((by rw [hg]; exact bsize : w.heap.size ≤ gb179)); clear HB; have HB := n0_; have BK179 := n1_; have GW179 := n2_; have GE179 := n3_; clear n0_ n1_ n2_ n3_; clear hb hbox hg; obtain ⟨hcz9_0, hcz9_1, hcz9_2, hcz9_3, hcz9_4, hcz9_5⟩ := bc6 BK179.out; obtain ⟨hfz9_0, hfz9_1, hfz9_2, hfz9_3, hfz9_4, hfz9_5⟩ := bf6 BK179.out) | ((with_reducible refine gate_callee (f := 26) rfl ?_); refine goesL_ (some 9) rfl rfl Tryd.func26 (by kernel_rfl) rfl #[.agg #[.int .i64 a0_0, .int .i64 a0_1, .int .i64 a0_2, .int .i64 a0_3, .int .i64 a0_4, .int .i64 a0_5]] rfl (by (try simp only [List.map_toArray, List.map_cons, List.map_nil]); first | done | rfl | (simp only [List.length_drop, List.length_take]; rfl)) ?_; (with_reducible refine (laws_toDate.calls a0_0 a0_1 a0_2 a0_3 a0_4 a0_5 t180 t181 t182 t183 t184 t185 _ A2.out).mono ?_); rintro e w10 ⟨rfl, hb⟩; refine ⟨_, rfl, ?_⟩; have n0_ := Aside0.mk (blk_below (g := gb179) (o := .cells #[.int .i64 a0_0, .int .i64 a0_1, .int .i64 a0_2, .int .i64 a0_3, .int .i64 a0_4, .int .i64 a0_5] 41 (0, 0)) (by (with_reducible repeat (first | refine blk_drewN ?_ _ | refine blk_drew ?_ | refine blk_alloc ?_ _)); exact BK179.out) hb); have n1_ := Aside0.mk (below_step (by repeat (first | (with_reducible first | exact HB.out | apply below_alloc | apply pw_below_drewN | apply below_drew1 | refine below_set ?_ GE179.out) | exact HB.out)) hb); clear BK179; clear HB; have BK179 := n0_; have HB := n1_; clear n0_ n1_; (try clear hb); (try clear hb2); (try clear hk); (try clear hi)) | ((with_reducible refine gate_callee (f := 25) rfl ?_); refine goesL_ (some 10) rfl rfl Tryd.func25 (by kernel_rfl) rfl #[.agg #[.int .i64 t180, .int .i64 t181, .int .i64 t182, .int .i64 t183, .int .i64 t184, .int .i64 t185]] rfl (by (try simp only [List.map_toArray, List.map_cons, List.map_nil]); first | done | rfl | (simp only [List.length_drop, List.length_take]; rfl)) ?_; (with_reducible refine (spec_DateText.calls k t180 t181 t182 t183 t184 t185 t186 t187 _ A3.out).mono ?_); rintro e w11 ⟨rfl, hb⟩; refine ⟨_, rfl, ?_⟩; have n0_ := Aside0.mk (blk_below (g := gb179) (o := .cells #[.int .i64 a0_0, .int .i64 a0_1, .int .i64 a0_2, .int .i64 a0_3, .int .i64 a0_4, .int .i64 a0_5] 41 (0, 0)) (by (with_reducible repeat (first | refine blk_drewN ?_ _ | refine blk_drew ?_ | refine blk_alloc ?_ _)); exact BK179.out) hb); have n1_ := Aside0.mk (below_step (by repeat (first | (with_reducible first | exact HB.out | apply below_alloc | apply pw_below_drewN | apply below_drew1 | refine below_set ?_ GE179.out) | exact HB.out)) hb); clear BK179; clear HB; have BK179 := n0_; have HB := n1_; clear n0_ n1_; (try clear hb); (try clear hb2); (try clear hk); (try clear hi); obtain ⟨hcz12_0, hcz12_1, hcz12_2, hcz12_3, hcz12_4, hcz12_5⟩ := bc6 BK179.out; obtain ⟨hfz12_0, hfz12_1, hfz12_2, hfz12_3, hfz12_4, hfz12_5⟩ := bf6 BK179.out) | ((with_reducible refine gate_callee (f := 26) rfl ?_); refine goesL_ (some 15) rfl rfl Tryd.func26 (by kernel_rfl) rfl #[.agg #[.int .i64 a0_0, .int .i64 a0_1, .int .i64 a0_2, .int .i64 a0_3, .int .i64 a0_4, .int .i64 a0_5]] rfl (by (try simp only [List.map_toArray, List.map_cons, List.map_nil]); first | done | rfl | (simp only [List.length_drop, List.length_take]; rfl)) ?_; (with_reducible refine (laws_toDate.calls a0_0 a0_1 a0_2 a0_3 a0_4 a0_5 t188 t189 t190 t191 t192 t193 _ A4.out).mono ?_); rintro e w13 ⟨rfl, hb⟩; refine ⟨_, rfl, ?_⟩; have n0_ := Aside0.mk (blk_below (g := gb179) (o := .cells #[.int .i64 a0_0, .int .i64 a0_1, .int .i64 a0_2, .int .i64 a0_3, .int .i64 a0_4, .int .i64 a0_5] 41 (0, 0)) (by (with_reducible repeat (first | refine blk_drewN ?_ _ | refine blk_drew ?_ | refine blk_alloc ?_ _)); exact BK179.out) hb); have n1_ := Aside0.mk (below_step (by repeat (first | (with_reducible first | exact HB.out | apply below_alloc | apply pw_below_drewN | apply below_drew1 | refine below_set ?_ GE179.out) | exact HB.out)) hb); clear BK179; clear HB; have BK179 := n0_; have HB := n1_; clear n0_ n1_; (try clear hb); (try clear hb2); (try clear hk); (try clear hi)) | ((with_reducible refine gate_callee (f := 27) rfl ?_); refine goesL_ (some 16) rfl rfl Tryd.func27 (by kernel_rfl) rfl #[.agg #[.int .i64 t188, .int .i64 t189, .int .i64 t190, .int .i64 t191, .int .i64 t192, .int .i64 t193]] rfl (by (try simp only [List.map_toArray, List.map_cons, List.map_nil]); first | done | rfl | (simp only [List.length_drop, List.length_take]; rfl)) ?_; (with_reducible refine (impl_DateText.calls k t188 t189 t190 t191 t192 t193 t194 t195 _ ?side1 ?side2 A5.out).mono ?_); (case side1 => first | (with_reducible exact HGP.out) | exact LaidP.to HGP.out (by repeat (first | (with_reducible first | exact HB.out | apply below_alloc | apply pw_below_drewN | apply below_drew1 | refine below_set ?_ GE179.out) | exact HB.out))); (case side2 => first | (with_reducible exact HGS.out) | exact LaidS.to HGS.out (by repeat (first | (with_reducible first | exact HB.out | apply below_alloc | apply pw_below_drewN | apply below_drew1 | refine below_set ?_ GE179.out) | exact HB.out))); rintro e w14 ⟨rfl, hb⟩; refine ⟨_, rfl, ?_⟩; have n0_ := Aside0.mk (blk_below (g := gb179) (o := .cells #[.int .i64 a0_0, .int .i64 a0_1, .int .i64 a0_2, .int .i64 a0_3, .int .i64 a0_4, .int .i64 a0_5] 41 (0, 0)) (by (with_reducible repeat (first | refine blk_drewN ?_ _ | refine blk_drew ?_ | refine blk_alloc ?_ _)); exact BK179.out) hb); have n1_ := Aside0.mk (below_step (by repeat (first | (with_reducible first | exact HB.out | apply below_alloc | apply pw_below_drewN | apply below_drew1 | refine below_set ?_ GE179.out) | exact HB.out)) hb); clear BK179; clear HB; have BK179 := n0_; have HB := n1_; clear n0_ n1_; (try clear hb); (try clear hb2); (try clear hk); (try clear hi)))
   go_ret
   exact ⟨by first | rfl | (simp [errW_none, errW_some] <;> rfl) | (simp [*, errW_none, errW_some] <;> rfl) | (simp [r1, r2, r3, r4]; done), by repeat (first | (with_reducible first | exact HB.out | apply below_alloc | apply pw_below_drewN | apply below_drew1 | refine below_set ?_ GE179.out) | exact HB.out)⟩
  ·rw [if_neg c7] at H
   have c7b0 : (t195 != t187) = false := by simpa using c7
   (try (have c7b1 : decide (t195 = t187) = true := by simpa using c7))
   (try (have c7b2 : (t195 == t187) = true := by simpa using c7))
   clear c7
   obtain rfl := Option.some.inj H
   go_enter Tryd.func9, Tryd.ntmps9
   go_wp2_with (first | ((with_reducible refine gate_dst (N := 1) rfl ?_); refine box_event ?hg (N := 1) ?hd (cs := #[.int .i64 a0_0, .int .i64 a0_1, .int .i64 a0_2, .int .i64 a0_3, .int .i64 a0_4, .int .i64 a0_5]) (t := 41) ?hr ?_; (case hd => rfl); (case hg => rfl); (case hr => first | (go_simp; done) | (go_simp; rfl)); intro gb179 hg w15 hbox hb; have n0_ := Aside0.mk (bstep hb); have n1_ := Aside0.mk (hbox); have n2_ := Aside0.mk ((by rw [hg]; exact bsize : w.heap.size ≤ gb179)); have n3_ := Aside0.mk ((by rw [hg]; exact bsize : w.heap.size ≤ gb179)); clear HB; have HB := n0_; have BK179 := n1_; have GW179 := n2_; have GE179 := n3_; clear n0_ n1_ n2_ n3_; clear hb hbox hg; obtain ⟨hcz16_0, hcz16_1, hcz16_2, hcz16_3, hcz16_4, hcz16_5⟩ := bc6 BK179.out; obtain ⟨hfz16_0, hfz16_1, hfz16_2, hfz16_3, hfz16_4, hfz16_5⟩ := bf6 BK179.out) | ((with_reducible refine gate_callee (f := 26) rfl ?_); refine goesL_ (some 9) rfl rfl Tryd.func26 (by kernel_rfl) rfl #[.agg #[.int .i64 a0_0, .int .i64 a0_1, .int .i64 a0_2, .int .i64 a0_3, .int .i64 a0_4, .int .i64 a0_5]] rfl (by (try simp only [List.map_toArray, List.map_cons, List.map_nil]); first | done | rfl | (simp only [List.length_drop, List.length_take]; rfl)) ?_; (with_reducible refine (laws_toDate.calls a0_0 a0_1 a0_2 a0_3 a0_4 a0_5 t180 t181 t182 t183 t184 t185 _ A2.out).mono ?_); rintro e w17 ⟨rfl, hb⟩; refine ⟨_, rfl, ?_⟩; have n0_ := Aside0.mk (blk_below (g := gb179) (o := .cells #[.int .i64 a0_0, .int .i64 a0_1, .int .i64 a0_2, .int .i64 a0_3, .int .i64 a0_4, .int .i64 a0_5] 41 (0, 0)) (by (with_reducible repeat (first | refine blk_drewN ?_ _ | refine blk_drew ?_ | refine blk_alloc ?_ _)); exact BK179.out) hb); have n1_ := Aside0.mk (below_step (by repeat (first | (with_reducible first | exact HB.out | apply below_alloc | apply pw_below_drewN | apply below_drew1 | refine below_set ?_ GE179.out) | exact HB.out)) hb); clear BK179; clear HB; have BK179 := n0_; have HB := n1_; clear n0_ n1_; (try clear hb); (try clear hb2); (try clear hk); (try clear hi)) | ((with_reducible refine gate_callee (f := 25) rfl ?_); refine goesL_ (some 10) rfl rfl Tryd.func25 (by kernel_rfl) rfl #[.agg #[.int .i64 t180, .int .i64 t181, .int .i64 t182, .int .i64 t183, .int .i64 t184, .int .i64 t185]] rfl (by (try simp only [List.map_toArray, List.map_cons, List.map_nil]); first | done | rfl | (simp only [List.length_drop, List.length_take]; rfl)) ?_; (with_reducible refine (spec_DateText.calls k t180 t181 t182 t183 t184 t185 t186 t187 _ A3.out).mono ?_); rintro e w18 ⟨rfl, hb⟩; refine ⟨_, rfl, ?_⟩; have n0_ := Aside0.mk (blk_below (g := gb179) (o := .cells #[.int .i64 a0_0, .int .i64 a0_1, .int .i64 a0_2, .int .i64 a0_3, .int .i64 a0_4, .int .i64 a0_5] 41 (0, 0)) (by (with_reducible repeat (first | refine blk_drewN ?_ _ | refine blk_drew ?_ | refine blk_alloc ?_ _)); exact BK179.out) hb); have n1_ := Aside0.mk (below_step (by repeat (first | (with_reducible first | exact HB.out | apply below_alloc | apply pw_below_drewN | apply below_drew1 | refine below_set ?_ GE179.out) | exact HB.out)) hb); clear BK179; clear HB; have BK179 := n0_; have HB := n1_; clear n0_ n1_; (try clear hb); (try clear hb2); (try clear hk); (try clear hi); obtain ⟨hcz19_0, hcz19_1, hcz19_2, hcz19_3, hcz19_4, hcz19_5⟩ := bc6 BK179.out; obtain ⟨hfz19_0, hfz19_1, hfz19_2, hfz19_3, hfz19_4, hfz19_5⟩ := bf6 BK179.out) | ((with_reducible refine gate_callee (f := 26) rfl ?_); refine goesL_ (some 15) rfl rfl Tryd.func26 (by kernel_rfl) rfl #[.agg #[.int .i64 a0_0, .int .i64 a0_1, .int .i64 a0_2, .int .i64 a0_3, .int .i64 a0_4, .int .i64 a0_5]] rfl (by (try simp only [List.map_toArray, List.map_cons, List.map_nil]); first | done | rfl | (simp only [List.length_drop, List.length_take]; rfl)) ?_; (with_reducible refine (laws_toDate.calls a0_0 a0_1 a0_2 a0_3 a0_4 a0_5 t188 t189 t190 t191 t192 t193 _ A4.out).mono ?_); rintro e w20 ⟨rfl, hb⟩; refine ⟨_, rfl, ?_⟩; have n0_ := Aside0.mk (blk_below (g := gb179) (o := .cells #[.int .i64 a0_0, .int .i64 a0_1, .int .i64 a0_2, .int .i64 a0_3, .int .i64 a0_4, .int .i64 a0_5] 41 (0, 0)) (by (with_reducible repeat (first | refine blk_drewN ?_ _ | refine blk_drew ?_ | refine blk_alloc ?_ _)); exact BK179.out) hb); have n1_ := Aside0.mk (below_step (by repeat (first | (with_reducible first | exact HB.out | apply below_alloc | apply pw_below_drewN | apply below_drew1 | refine below_set ?_ GE179.out) | exact HB.out)) hb); clear BK179; clear HB; have BK179 := n0_; have HB := n1_; clear n0_ n1_; (try clear hb); (try clear hb2); (try clear hk); (try clear hi)) | ((with_reducible refine gate_callee (f := 27) rfl ?_); refine goesL_ (some 16) rfl rfl Tryd.func27 (by kernel_rfl) rfl #[.agg #[.int .i64 t188, .int .i64 t189, .int .i64 t190, .int .i64 t191, .int .i64 t192, .int .i64 t193]] rfl (by (try simp only [List.map_toArray, List.map_cons, List.map_nil]); first | done | rfl | (simp only [List.length_drop, List.length_take]; rfl)) ?_; (with_reducible refine (impl_DateText.calls k t188 t189 t190 t191 t192 t193 t194 t195 _ ?side1 ?side2 A5.out).mono ?_); (case side1 => first | (with_reducible exact HGP.out) | exact LaidP.to HGP.out (by repeat (first | (with_reducible first | exact HB.out | apply below_alloc | apply pw_below_drewN | apply below_drew1 | refine below_set ?_ GE179.out) | exact HB.out))); (case side2 => first | (with_reducible exact HGS.out) | exact LaidS.to HGS.out (by repeat (first | (with_reducible first | exact HB.out | apply below_alloc | apply pw_below_drewN | apply below_drew1 | refine below_set ?_ GE179.out) | exact HB.out))); rintro e w21 ⟨rfl, hb⟩; refine ⟨_, rfl, ?_⟩; have n0_ := Aside0.mk (blk_below (g := gb179) (o := .cells #[.int .i64 a0_0, .int .i64 a0_1, .int .i64 a0_2, .int .i64 a0_3, .int .i64 a0_4, .int .i64 a0_5] 41 (0, 0)) (by (with_reducible repeat (first | refine blk_drewN ?_ _ | refine blk_drew ?_ | refine blk_alloc ?_ _)); exact BK179.out) hb); have n1_ := Aside0.mk (below_step (by repeat (first | (with_reducible first | exact HB.out | apply below_alloc | apply pw_below_drewN | apply below_drew1 | refine below_set ?_ GE179.out) | exact HB.out)) hb); clear BK179; clear HB; have BK179 := n0_; have HB := n1_; clear n0_ n1_; (try clear hb); (try clear hb2); (try clear hk); (try clear hi)))
   go_ret
   exact ⟨by first | rfl | (simp [errW_none, errW_some] <;> rfl) | (simp [*, errW_none, errW_some] <;> rfl) | (simp [r1, r2, r3, r4]; done), by repeat (first | (with_reducible first | exact HB.out | apply below_alloc | apply pw_below_drewN | apply below_drew1 | refine below_set ?_ GE179.out) | exact HB.out)⟩
 ·rw [if_neg c6] at H
  have c6b0 : (t194.toList == t186.toList) = false := beq_eq_false_iff_ne.mpr c6
  have c6b1 : (t194.toList != t186.toList) = true := bne_iff_ne.mpr c6
  obtain rfl := Option.some.inj H
  go_enter Tryd.func9, Tryd.ntmps9
  go_wp2_with (first | ((with_reducible refine gate_dst (N := 1) rfl ?_); refine box_event ?hg (N := 1) ?hd (cs := #[.int .i64 a0_0, .int .i64 a0_1, .int .i64 a0_2, .int .i64 a0_3, .int .i64 a0_4, .int .i64 a0_5]) (t := 41) ?hr ?_; (case hd => rfl); (case hg => rfl); (case hr => first | (go_simp; done) | (go_simp; rfl)); intro gb179 hg w22 hbox hb; have n0_ := Aside0.mk (bstep hb); have n1_ := Aside0.mk (hbox); have n2_ := Aside0.mk ((by rw [hg]; exact bsize : w.heap.size ≤ gb179)); have n3_ := Aside0.mk ((by rw [hg]; exact bsize : w.heap.size ≤ gb179)); clear HB; have HB := n0_; have BK179 := n1_; have GW179 := n2_; have GE179 := n3_; clear n0_ n1_ n2_ n3_; clear hb hbox hg; obtain ⟨hcz23_0, hcz23_1, hcz23_2, hcz23_3, hcz23_4, hcz23_5⟩ := bc6 BK179.out; obtain ⟨hfz23_0, hfz23_1, hfz23_2, hfz23_3, hfz23_4, hfz23_5⟩ := bf6 BK179.out) | ((with_reducible refine gate_callee (f := 26) rfl ?_); refine goesL_ (some 9) rfl rfl Tryd.func26 (by kernel_rfl) rfl #[.agg #[.int .i64 a0_0, .int .i64 a0_1, .int .i64 a0_2, .int .i64 a0_3, .int .i64 a0_4, .int .i64 a0_5]] rfl (by (try simp only [List.map_toArray, List.map_cons, List.map_nil]); first | done | rfl | (simp only [List.length_drop, List.length_take]; rfl)) ?_; (with_reducible refine (laws_toDate.calls a0_0 a0_1 a0_2 a0_3 a0_4 a0_5 t180 t181 t182 t183 t184 t185 _ A2.out).mono ?_); rintro e w24 ⟨rfl, hb⟩; refine ⟨_, rfl, ?_⟩; have n0_ := Aside0.mk (blk_below (g := gb179) (o := .cells #[.int .i64 a0_0, .int .i64 a0_1, .int .i64 a0_2, .int .i64 a0_3, .int .i64 a0_4, .int .i64 a0_5] 41 (0, 0)) (by (with_reducible repeat (first | refine blk_drewN ?_ _ | refine blk_drew ?_ | refine blk_alloc ?_ _)); exact BK179.out) hb); have n1_ := Aside0.mk (below_step (by repeat (first | (with_reducible first | exact HB.out | apply below_alloc | apply pw_below_drewN | apply below_drew1 | refine below_set ?_ GE179.out) | exact HB.out)) hb); clear BK179; clear HB; have BK179 := n0_; have HB := n1_; clear n0_ n1_; (try clear hb); (try clear hb2); (try clear hk); (try clear hi)) | ((with_reducible refine gate_callee (f := 25) rfl ?_); refine goesL_ (some 10) rfl rfl Tryd.func25 (by kernel_rfl) rfl #[.agg #[.int .i64 t180, .int .i64 t181, .int .i64 t182, .int .i64 t183, .int .i64 t184, .int .i64 t185]] rfl (by (try simp only [List.map_toArray, List.map_cons, List.map_nil]); first | done | rfl | (simp only [List.length_drop, List.length_take]; rfl)) ?_; (with_reducible refine (spec_DateText.calls k t180 t181 t182 t183 t184 t185 t186 t187 _ A3.out).mono ?_); rintro e w25 ⟨rfl, hb⟩; refine ⟨_, rfl, ?_⟩; have n0_ := Aside0.mk (blk_below (g := gb179) (o := .cells #[.int .i64 a0_0, .int .i64 a0_1, .int .i64 a0_2, .int .i64 a0_3, .int .i64 a0_4, .int .i64 a0_5] 41 (0, 0)) (by (with_reducible repeat (first | refine blk_drewN ?_ _ | refine blk_drew ?_ | refine blk_alloc ?_ _)); exact BK179.out) hb); have n1_ := Aside0.mk (below_step (by repeat (first | (with_reducible first | exact HB.out | apply below_alloc | apply pw_below_drewN | apply below_drew1 | refine below_set ?_ GE179.out) | exact HB.out)) hb); clear BK179; clear HB; have BK179 := n0_; have HB := n1_; clear n0_ n1_; (try clear hb); (try clear hb2); (try clear hk); (try clear hi); obtain ⟨hcz26_0, hcz26_1, hcz26_2, hcz26_3, hcz26_4, hcz26_5⟩ := bc6 BK179.out; obtain ⟨hfz26_0, hfz26_1, hfz26_2, hfz26_3, hfz26_4, hfz26_5⟩ := bf6 BK179.out) | ((with_reducible refine gate_callee (f := 26) rfl ?_); refine goesL_ (some 15) rfl rfl Tryd.func26 (by kernel_rfl) rfl #[.agg #[.int .i64 a0_0, .int .i64 a0_1, .int .i64 a0_2, .int .i64 a0_3, .int .i64 a0_4, .int .i64 a0_5]] rfl (by (try simp only [List.map_toArray, List.map_cons, List.map_nil]); first | done | rfl | (simp only [List.length_drop, List.length_take]; rfl)) ?_; (with_reducible refine (laws_toDate.calls a0_0 a0_1 a0_2 a0_3 a0_4 a0_5 t188 t189 t190 t191 t192 t193 _ A4.out).mono ?_); rintro e w27 ⟨rfl, hb⟩; refine ⟨_, rfl, ?_⟩; have n0_ := Aside0.mk (blk_below (g := gb179) (o := .cells #[.int .i64 a0_0, .int .i64 a0_1, .int .i64 a0_2, .int .i64 a0_3, .int .i64 a0_4, .int .i64 a0_5] 41 (0, 0)) (by (with_reducible repeat (first | refine blk_drewN ?_ _ | refine blk_drew ?_ | refine blk_alloc ?_ _)); exact BK179.out) hb); have n1_ := Aside0.mk (below_step (by repeat (first | (with_reducible first | exact HB.out | apply below_alloc | apply pw_below_drewN | apply below_drew1 | refine below_set ?_ GE179.out) | exact HB.out)) hb); clear BK179; clear HB; have BK179 := n0_; have HB := n1_; clear n0_ n1_; (try clear hb); (try clear hb2); (try clear hk); (try clear hi)) | ((with_reducible refine gate_callee (f := 27) rfl ?_); refine goesL_ (some 16) rfl rfl Tryd.func27 (by kernel_rfl) rfl #[.agg #[.int .i64 t188, .int .i64 t189, .int .i64 t190, .int .i64 t191, .int .i64 t192, .int .i64 t193]] rfl (by (try simp only [List.map_toArray, List.map_cons, List.map_nil]); first | done | rfl | (simp only [List.length_drop, List.length_take]; rfl)) ?_; (with_reducible refine (impl_DateText.calls k t188 t189 t190 t191 t192 t193 t194 t195 _ ?side1 ?side2 A5.out).mono ?_); (case side1 => first | (with_reducible exact HGP.out) | exact LaidP.to HGP.out (by repeat (first | (with_reducible first | exact HB.out | apply below_alloc | apply pw_below_drewN | apply below_drew1 | refine below_set ?_ GE179.out) | exact HB.out))); (case side2 => first | (with_reducible exact HGS.out) | exact LaidS.to HGS.out (by repeat (first | (with_reducible first | exact HB.out | apply below_alloc | apply pw_below_drewN | apply below_drew1 | refine below_set ?_ GE179.out) | exact HB.out))); rintro e w28 ⟨rfl, hb⟩; refine ⟨_, rfl, ?_⟩; have n0_ := Aside0.mk (blk_below (g := gb179) (o := .cells #[.int .i64 a0_0, .int .i64 a0_1, .int .i64 a0_2, .int .i64 a0_3, .int .i64 a0_4, .int .i64 a0_5] 41 (0, 0)) (by (with_reducible repeat (first | refine blk_drewN ?_ _ | refine blk_drew ?_ | refine blk_alloc ?_ _)); exact BK179.out) hb); have n1_ := Aside0.mk (below_step (by repeat (first | (with_reducible first | exact HB.out | apply below_alloc | apply pw_below_drewN | apply below_drew1 | refine below_set ?_ GE179.out) | exact HB.out)) hb); clear BK179; clear HB; have BK179 := n0_; have HB := n1_; clear n0_ n1_; (try clear hb); (try clear hb2); (try clear hk); (try clear hi)))
  go_ret
  exact ⟨by first | rfl | (simp [errW_none, errW_some] <;> rfl) | (simp [*, errW_none, errW_some] <;> rfl) | (simp [r1, r2, r3, r4]; done), by repeat (first | (with_reducible first | exact HB.out | apply below_alloc | apply pw_below_drewN | apply below_drew1 | refine below_set ?_ GE179.out) | exact HB.out)⟩

/-- THE ONE PURE STATEMENT of laws_FnExactDateText. -/
def laws_FnExactDateText.Pure : Prop := ∀ (a0_0 : Int) (a0_1 : Int) (a0_2 : Int) (a0_3 : Int) (a0_4 : Int) (a0_5 : Int), (Lit.int .i64 a0_0).wf = true → (Lit.int .i64 a0_1).wf = true → (Lit.int .i64 a0_2).wf = true → (Lit.int .i64 a0_3).wf = true → (Lit.int .i64 a0_4).wf = true → (Lit.int .i64 a0_5).wf = true → ∃ k, laws_FnExactDateText.f k a0_0 a0_1 a0_2 a0_3 a0_4 a0_5 = some true

end Go.Proofs.YtehflacblgliiaaDoor.F

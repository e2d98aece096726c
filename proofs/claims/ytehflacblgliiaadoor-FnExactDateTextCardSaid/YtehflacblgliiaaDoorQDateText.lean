/- A date's text: the reference's and the program's are one. No condition. -/
import Derived.Test.YtehflacblgliiaaDoorF2
import Derived.Test.YtehflacblgliiaaDoorF4
import Derived.Test.YtehflacblgliiaaDoorQDays
import Derived.Test.YtehflacblgliiaaDoorQItoa
namespace Go.Proofs.YtehflacblgliiaaDoor.Q
set_option linter.unusedVariables false
set_option linter.unusedSimpArgs false
open Go.RowKit Go.Proofs.YtehflacblgliiaaDoor.F Go.Proofs.YtehflacblgliiaaDoorHw Go.Proofs.YtehflacblgliiaaDoorPl Go.Proofs.YtehflacblgliiaaDoorW.PrintWords
/-- A number's text. -/
def nm (n : Int) : ByteArray := ⟨(Lib.itoa n).toArray⟩
theorem nm_size (n : Int) (h0 : 0 ≤ n) (h1 : n ≤ 100000) : (nm n).size ≤ 21 := by
  show (Lib.itoa n).toArray.size ≤ 21
  rw [List.size_toArray]
  exact Lib.itoa_length_le n (by omega) (by omega)
theorem nm_impl (n : Int) (h0 : 0 ≤ n) (h1 : n ≤ 100000) : strconv_Itoa.f n = some (nm n) := by
  unfold strconv_Itoa.f
  rw [if_pos ⟨by omega, by omega⟩]
  rfl
theorem nm_spec (n : Int) (h0 : 0 ≤ n) (h1 : n ≤ 100000) : Ev (fun k => spec_l1Num.f k n) (nm n) := by
  obtain ⟨m, rfl⟩ : ∃ m : Nat, n = m := ⟨n.toNat, by omega⟩
  exact num_eq (m + 1) m (by omega) (by omega)
/-- A number with two digits. -/
def two (n : Int) : ByteArray := nm (n / 10) ++ nm (n % 10)
theorem two_size (n : Int) (h0 : 0 ≤ n) (h1 : n ≤ 99) : (two n).size ≤ 42 := by
  have a := nm_size (n / 10) (by omega) (by omega)
  have b := nm_size (n % 10) (by omega) (by omega)
  unfold two
  rw [ByteArray.size_append]; omega
theorem two_spec (n : Int) (h0 : 0 ≤ n) (h1 : n ≤ 99) : Ev (fun k => spec_l2Two.f k n) (two n) := by
  have a := nm_size (n / 10) (by omega) (by omega)
  have b := nm_size (n % 10) (by omega) (by omega)
  unfold spec_l2Two.f
  rw [Int.tdiv_eq_ediv_of_nonneg h0, Int.tmod_eq_emod_of_nonneg h0, wrap_id (x := n / 10) (by omega) (by omega)]
  exact Ev.bind (nm_spec (n / 10) (by omega) (by omega)) (Ev.bind (nm_spec (n % 10) (by omega) (by omega)) (Ev.pos (by omega) (Ev.now _)))
theorem two_impl (n : Int) (h0 : 0 ≤ n) (h1 : n ≤ 99) : impl_twoDigits.f n = some (two n) := by
  have a := nm_size (n / 10) (by omega) (by omega)
  have b := nm_size (n % 10) (by omega) (by omega)
  unfold impl_twoDigits.f
  rw [Int.tdiv_eq_ediv_of_nonneg h0, Int.tmod_eq_emod_of_nonneg h0, wrap_id (x := n / 10) (by omega) (by omega), Int.tmod_eq_emod_of_nonneg (by omega), show n / 10 % 10 = n / 10 by omega, nm_impl _ (by omega) (by omega), nm_impl _ (by omega) (by omega), Option.bind_some, Option.bind_some, if_pos (by omega)]
  rfl
theorem cSize : (⟨#[58]⟩ : ByteArray).size = 1 := rfl
theorem bSize : (⟨#[32]⟩ : ByteArray).size = 1 := rfl
theorem kSize : (⟨#[44, 32]⟩ : ByteArray).size = 2 := rfl
/-- A clock's text. -/
def clock (h i s : Int) : ByteArray := (((two h ++ (⟨#[58]⟩ : ByteArray)) ++ two i) ++ (⟨#[58]⟩ : ByteArray)) ++ two s
theorem clock_both (y m d h i s : Int) (h0 : 0 ≤ h) (h1 : h ≤ 23) (i0 : 0 ≤ i) (i1 : i ≤ 59) (s0 : 0 ≤ s) (s1 : s ≤ 59) :
    (clock h i s).size ≤ 128 ∧ Ev (fun k => spec_l2Clock.f k y m d h i s) (clock h i s) ∧ impl_clockText.f y m d h i s = some (clock h i s) := by
  have a := two_size h (by omega) (by omega)
  have b := two_size i (by omega) (by omega)
  have c := two_size s (by omega) (by omega)
  have e1 : (two h ++ (⟨#[58]⟩ : ByteArray)).size ≤ 43 := by rw [ByteArray.size_append, cSize]; omega
  have e2 : ((two h ++ (⟨#[58]⟩ : ByteArray)) ++ two i).size ≤ 85 := by rw [ByteArray.size_append]; omega
  have e3 : (((two h ++ (⟨#[58]⟩ : ByteArray)) ++ two i) ++ (⟨#[58]⟩ : ByteArray)).size ≤ 86 := by rw [ByteArray.size_append, cSize]; omega
  have e4 : (clock h i s).size ≤ 128 := by unfold clock; rw [ByteArray.size_append]; omega
  refine ⟨e4, ?_, ?_⟩
  · unfold spec_l2Clock.f
    exact Ev.bind (two_spec h (by omega) (by omega)) (Ev.pos (by omega) (Ev.bind (two_spec i (by omega) (by omega)) (Ev.pos (by omega) (Ev.pos (by omega) (Ev.bind (two_spec s (by omega) (by omega)) (Ev.pos (by omega) (Ev.now _)))))))
  · unfold impl_clockText.f
    rw [two_impl h (by omega) (by omega), two_impl i (by omega) (by omega), two_impl s (by omega) (by omega), Option.bind_some, if_pos (by omega), Option.bind_some, if_pos (by omega), if_pos (by omega), Option.bind_some, if_pos (by omega)]
    rfl
abbrev DayT : ByteArray := ⟨#[83, 117, 110, 77, 111, 110, 84, 117, 101, 87, 101, 100, 84, 104, 117, 70, 114, 105, 83, 97, 116]⟩
abbrev MonT : ByteArray := ⟨#[74, 97, 110, 70, 101, 98, 77, 97, 114, 65, 112, 114, 77, 97, 121, 74, 117, 110, 74, 117, 108, 65, 117, 103, 83, 101, 112, 79, 99, 116, 78, 111, 118, 68, 101, 99]⟩
theorem names_day : ∀ t : Fin 7, ∃ x : ByteArray, (impl_weekNames.f.bind fun l => some (l.length, rdOf ByteArray.empty l ((t.val : Nat) : Int))) = some (7, x) ∧ 3 ≤ x.size ∧ x.extract 0 3 = DayT.extract (3 * t.val) (3 * t.val + 3) := by
  intro t
  refine ⟨rdOf ByteArray.empty (impl_weekNames.f.getD []) ((t.val : Nat) : Int), ?_⟩
  revert t
  decide +kernel
theorem names_month : ∃ l : List ByteArray, impl_monthNames.f = some l ∧ l.length = 12 ∧ ∀ t : Fin 12, rdOf ByteArray.empty l ((t.val : Nat) : Int) = MonT.extract (3 * t.val) (3 * t.val + 3) := by
  refine ⟨_, rfl, ?_⟩
  decide +kernel
/-- Days are no fewer than none. -/
theorem days_up (y m d : Int) (hd0 : 1 ≤ d) (hd : d ≤ 31) : ∀ (n : Nat) (j acc : Int), 1 ≤ j → j ≤ 12 → m ≤ 12 → m - j ≤ n → 0 ≤ acc → acc ≤ 8000000 + 31 * j →
    ∃ r : Int, 0 ≤ r ∧ Ev (fun k => impl_daysOf.l0 k y m acc j) r := by
  intro n
  induction n with
  | zero =>
    intro j acc hj h12 hm hn h0 h1
    refine ⟨acc, by omega, Ev.step (fun k => ?_) (Ev.now _)⟩
    simp only [impl_daysOf.l0]
    rw [if_neg (by omega)]
  | succ n ih =>
    intro j acc hj h12 hm hn h0 h1
    by_cases hlt : j < m
    · obtain ⟨q, hq, q1, q2⟩ := long_some y j
      obtain ⟨r, r0, i2⟩ := ih (j + 1) (acc + q) (by omega) (by omega) (by omega) (by omega) (by omega) (by omega)
      refine ⟨r, r0, Ev.step (fun k => ?_) i2⟩
      simp only [impl_daysOf.l0]
      rw [if_pos hlt, hq]
      simp only [Option.bind_some]
      rw [wrap_id (x := acc + q) (by omega) (by omega), wrap_id (x := j + 1) (by omega) (by omega)]
    · refine ⟨acc, by omega, Ev.step (fun k => ?_) (Ev.now _)⟩
      simp only [impl_daysOf.l0]
      rw [if_neg (by omega)]
theorem days_nonneg (y m d h i s : Int) (hg : goodDate y m d h i s = true) : ∃ r : Int, 0 ≤ r ∧ r ≤ 9000000 ∧ Ev (fun k => spec_l2Days.f k y m d) r ∧ Ev (fun k => impl_daysOf.f k y m d) r := by
  obtain ⟨r, r0, r1, i1, i2⟩ := days_both y m d (.inr ⟨h, i, s, hg⟩)
  have hb := good_bounds hg
  refine ⟨r, ?_, r1, i1, i2⟩
  have ha : 0 ≤ ahead y ∧ ahead y ≤ 5000000 := by unfold ahead; omega
  obtain ⟨q, q0, q1⟩ := days_up y m d (by omega) (by omega) 12 1 (ahead y + d - 1) (by omega) (by omega) (by omega) (by omega) (by omega) (by omega)
  have q2 : Ev (fun k => impl_daysOf.f k y m d) q := by
    unfold impl_daysOf.f
    refine Ev.bnd (ahead_impl y (by omega) (by omega)) ?_
    rw [wrap_id (x := ahead y + d) (by omega) (by omega), wrap_id (x := ahead y + d - 1) (by omega) (by omega)]
    exact q1
  rw [Ev.det i2 q2]
  exact q0
/-- A date's text. -/
theorem text_both (y m d h i s : Int) (hg : goodDate y m d h i s = true) : ∃ T : ByteArray, Ev (fun k => spec_l2Text.f k y m d h i s) T ∧ Ev (fun k => impl_dateText.f k y m d h i s) T := by
  have hb := good_bounds hg
  obtain ⟨r, r0, r1, i1, i2⟩ := days_nonneg y m d h i s hg
  have w4 : wrap64 (r + 4) = r + 4 := wrap_id (by omega) (by omega)
  obtain ⟨t, ht⟩ : ∃ t : Nat, (r + 4) % 7 = t := ⟨((r + 4) % 7).toNat, by omega⟩
  have ht7 : t < 7 := by omega
  have hmod : Int.tmod (wrap64 (r + 4)) 7 = (t : Int) := by rw [w4, Int.tmod_eq_emod_of_nonneg (by omega)]; exact ht
  have hw : Ev (fun k => spec_l2Weekday.f k y m d h i s) (t : Int) := by
    unfold spec_l2Weekday.f
    exact Ev.bind i1 (Ev.eq (Ev.now _) hmod)
  obtain ⟨x, x1, x2, x3⟩ := names_day ⟨t, ht7⟩
  obtain ⟨wl, wl1, wl2⟩ : ∃ wl, impl_weekNames.f = some wl ∧ (wl.length = 7 ∧ rdOf ByteArray.empty wl (t : Int) = x) := by
    unfold impl_weekNames.f at x1 ⊢
    rw [Option.bind_some] at x1
    have := Option.some.inj x1
    exact ⟨_, rfl, (Prod.mk.inj this).1, (Prod.mk.inj this).2⟩
  have hn : Ev (fun k => impl_dayName.f k y m d h i s) x := by
    unfold impl_dayName.f
    refine Ev.bnd wl1 (Ev.bind i2 (Ev.bnd (a := (t : Int)) ?_ ?_))
    · unfold impl_weekday.f; rw [hmod]
    · exact Ev.pos (by omega) (Ev.pos (by omega) (Ev.eq (Ev.now _) wl2.2))
  obtain ⟨ml, ml1, ml2, ml3⟩ := names_month
  obtain ⟨u, rfl⟩ : ∃ u : Nat, m = (u : Int) + 1 := ⟨(m - 1).toNat, by omega⟩
  have hu : u < 12 := by omega
  have hm3 := ml3 ⟨u, hu⟩
  have wu : wrap64 ((u : Int) + 1 - 1) = (u : Int) := by rw [wrap_id (by omega) (by omega)]; omega
  have wt : wrap64 (3 * (t : Int)) = ((3 * t : Nat) : Int) := by rw [wrap_id (by omega) (by omega)]; omega
  have wt3 : wrap64 (((3 * t : Nat) : Int) + 3) = ((3 * t + 3 : Nat) : Int) := by rw [wrap_id (by omega) (by omega)]; omega
  have wm : wrap64 (3 * (u : Int)) = ((3 * u : Nat) : Int) := by rw [wrap_id (by omega) (by omega)]; omega
  have wm3 : wrap64 (((3 * u : Nat) : Int) + 3) = ((3 * u + 3 : Nat) : Int) := by rw [wrap_id (by omega) (by omega)]; omega
  obtain ⟨c0, c1, c2⟩ := clock_both y ((u : Int) + 1) d h i s (by omega) (by omega) (by omega) (by omega) (by omega) (by omega)
  have sD : (DayT.extract (3 * t) (3 * t + 3)).size = 3 := by rw [extract_size _ _ _ (show 3 * t + 3 ≤ 21 by omega)]; omega
  have sM : (MonT.extract (3 * u) (3 * u + 3)).size = 3 := by rw [extract_size _ _ _ (show 3 * u + 3 ≤ 36 by omega)]; omega
  have d0 := two_size d (by omega) (by omega)
  have d1 := two_spec d (by omega) (by omega)
  have d2 := two_impl d (by omega) (by omega)
  have y0 := nm_size y (by omega) (by omega)
  have y1 := nm_spec y (by omega) (by omega)
  have y2 := nm_impl y (by omega) (by omega)
  unfold spec_l2Text.f impl_dateText.f
  refine ⟨((((((((DayT.extract (3 * t) (3 * t + 3) ++ (⟨#[44, 32]⟩ : ByteArray)) ++ two d) ++ (⟨#[32]⟩ : ByteArray)) ++ MonT.extract (3 * u) (3 * u + 3)) ++ (⟨#[32]⟩ : ByteArray)) ++ nm y) ++ (⟨#[32]⟩ : ByteArray)) ++ clock h i s) ++ (⟨#[32, 71, 77, 84]⟩ : ByteArray), ?_, ?_⟩
  · refine Ev.bind hw ?_
    simp only [wt, wt3, wu, wm, wm3, Int.toNat_natCast]
    generalize DayT.extract (3 * t) (3 * t + 3) = A at sD ⊢
    generalize MonT.extract (3 * u) (3 * u + 3) = B at sM ⊢
    generalize two d = D at d0 d1 ⊢
    generalize nm y = Y at y0 y1 ⊢
    generalize clock h i s = C at c0 c1 ⊢
    clear ht x1 x2 x3 hm3 ml3
    refine Ev.pos (by omega) (Ev.pos (by omega) (Ev.pos (by omega) (Ev.pos (by omega) (Ev.bind d1 ?_))))
    refine Ev.pos (by simp only [ByteArray.size_append, kSize]; omega) (Ev.pos (by simp only [ByteArray.size_append, kSize]; omega) (Ev.pos (by omega) (Ev.pos (by omega) (Ev.pos (by omega) ?_))))
    refine Ev.pos (by simp only [ByteArray.size_append, kSize, bSize]; omega) (Ev.pos (by simp only [ByteArray.size_append, kSize, bSize]; omega) (Ev.bind y1 ?_))
    refine Ev.pos (by simp only [ByteArray.size_append, kSize, bSize]; omega) (Ev.pos (by simp only [ByteArray.size_append, kSize, bSize]; omega) (Ev.bind c1 ?_))
    exact Ev.pos (by simp only [ByteArray.size_append, kSize, bSize]; omega) (Ev.pos (by simp only [ByteArray.size_append, kSize, bSize]; omega) (Ev.now _))
  · refine Ev.bind hn ?_
    simp only [wu, hm3, x3]
    rw [d2, ml1, y2, c2]
    simp only [Option.bind_some]
    rw [hm3]
    generalize DayT.extract (3 * t) (3 * t + 3) = A at sD ⊢
    generalize MonT.extract (3 * u) (3 * u + 3) = B at sM ⊢
    generalize two d = D at d0 ⊢
    generalize nm y = Y at y0 ⊢
    generalize clock h i s = C at c0 ⊢
    refine Ev.pos (by omega) (Ev.pos (by omega) (Ev.pos (by omega) ?_))
    refine Ev.pos (by simp only [ByteArray.size_append, kSize]; omega) (Ev.pos (by simp only [ByteArray.size_append, kSize]; omega) (Ev.pos (by omega) (Ev.pos (by omega) ?_)))
    refine Ev.pos (by simp only [ByteArray.size_append, kSize, bSize]; omega) (Ev.pos (by simp only [ByteArray.size_append, kSize, bSize]; omega) ?_)
    refine Ev.pos (by simp only [ByteArray.size_append, kSize, bSize]; omega) (Ev.pos (by simp only [ByteArray.size_append, kSize, bSize]; omega) ?_)
    exact Ev.pos (by simp only [ByteArray.size_append, kSize, bSize]; omega) (Ev.pos (by simp only [ByteArray.size_append, kSize, bSize]; omega) (Ev.now _))
end Go.Proofs.YtehflacblgliiaaDoor.Q

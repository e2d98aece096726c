/- Seconds to dates: the reference's and the program's loops are one. No condition. -/
import Derived.Test.YtehflacblgliiaaF7
import Derived.Test.YtehflacblgliiaaQDays
namespace Go.Proofs.Ytehflacblgliiaa.Q
set_option linter.unusedVariables false
set_option linter.unusedSimpArgs false
open Go.RowKit Go.Proofs.Ytehflacblgliiaa.F Go.Proofs.YtehflacblgliiaaPl Go.Proofs.YtehflacblgliiaaW.PrintWords
def withTrue (r : Int × Int × Int × Int × Int × Int) : Int × Int × Int × Int × Int × Int × Bool := (r.1, r.2.1, r.2.2.1, r.2.2.2.1, r.2.2.2.2.1, r.2.2.2.2.2, true)
theorem month_loop (s y : Int) : ∀ (n : Nat) (left m : Int), left ≤ n → left ≤ 8000000 → -8000000 ≤ left → 1 ≤ m → m + left ≤ 9000000 → m ≤ 9000000 →
    ∃ r, Ev (fun k => spec_l2At.l1 k s y left m) r ∧ Ev (fun k => impl_DateAt.l1 k left (Int.tmod s 86400) y m) (withTrue r) := by
  intro n
  induction n with
  | zero =>
    intro left m hn h0 h1 hm hb hc
    obtain ⟨q, hq, q1, q2⟩ := long_some y m
    refine ⟨(y, m, wrap64 (left + 1), wrap64 (Int.tdiv (Int.tmod s 86400) 3600), Int.tmod (wrap64 (Int.tdiv (Int.tmod s 86400) 60)) 60, Int.tmod (Int.tmod s 86400) 60), Ev.step (fun k => ?_) (Ev.now _), Ev.step (fun k => ?_) (Ev.now _)⟩
    · simp only [spec_l2At.l1]
      rw [long_eq, hq]
      simp only [Option.bind_some]
      rw [if_neg (by omega)]
    · simp only [impl_DateAt.l1]
      rw [hq]
      simp only [Option.bind_some]
      rw [if_neg (by omega)]
      rfl
  | succ n ih =>
    intro left m hn h0 h1 hm hb hc
    obtain ⟨q, hq, q1, q2⟩ := long_some y m
    by_cases hlt : left ≥ q
    · obtain ⟨r, i1, i2⟩ := ih (left - q) (m + 1) (by omega) (by omega) (by omega) (by omega) (by omega) (by omega)
      refine ⟨r, Ev.step (fun k => ?_) i1, Ev.step (fun k => ?_) i2⟩
      · simp only [spec_l2At.l1]
        rw [long_eq, hq]
        simp only [Option.bind_some]
        rw [if_pos hlt, wrap_id (x := left - q) (by omega) (by omega), wrap_id (x := m + 1) (by omega) (by omega)]
      · simp only [impl_DateAt.l1]
        rw [hq]
        simp only [Option.bind_some]
        rw [if_pos hlt, wrap_id (x := left - q) (by omega) (by omega), wrap_id (x := m + 1) (by omega) (by omega)]
    · refine ⟨(y, m, wrap64 (left + 1), wrap64 (Int.tdiv (Int.tmod s 86400) 3600), Int.tmod (wrap64 (Int.tdiv (Int.tmod s 86400) 60)) 60, Int.tmod (Int.tmod s 86400) 60), Ev.step (fun k => ?_) (Ev.now _), Ev.step (fun k => ?_) (Ev.now _)⟩
      · simp only [spec_l2At.l1]
        rw [long_eq, hq]
        simp only [Option.bind_some]
        rw [if_neg hlt]
      · simp only [impl_DateAt.l1]
        rw [hq]
        simp only [Option.bind_some]
        rw [if_neg hlt]
        rfl
theorem year_loop (s days : Int) (h0 : 0 ≤ days) (h1 : days ≤ 2932896) : ∀ (n : Nat) (y : Int), 10000 - y ≤ n → 1970 ≤ y → y ≤ 9999 →
    ∃ r, Ev (fun k => spec_l2At.l0 k s days y) r ∧ Ev (fun k => impl_DateAt.l0 k days (Int.tmod s 86400) y) (withTrue r) := by
  intro n
  induction n with
  | zero => intro y hn hy0 hy1; omega
  | succ n ih =>
    intro y hn hy0 hy1
    have hw : wrap64 (y + 1) = y + 1 := wrap_id (by omega) (by omega)
    have a1 := ahead_spec (y + 1) (by omega) (by omega)
    have a2 := ahead_impl (y + 1) (by omega) (by omega)
    have b1 := ahead_spec y (by omega) (by omega)
    have b2 := ahead_impl y (by omega) (by omega)
    by_cases hle : ahead (y + 1) ≤ days
    · have hy2 : y + 1 ≤ 9999 := by unfold ahead at hle; omega
      obtain ⟨r, i1, i2⟩ := ih (y + 1) (by omega) (by omega) hy2
      refine ⟨r, Ev.step (fun k => ?_) i1, Ev.step (fun k => ?_) i2⟩
      · simp only [spec_l2At.l0]
        rw [hw, a1]
        simp only [Option.bind_some]
        rw [if_pos hle]
      · simp only [impl_DateAt.l0]
        rw [hw, a2]
        simp only [Option.bind_some]
        rw [if_pos hle]
    · have hb : -3000000 ≤ ahead y ∧ ahead y ≤ 5000000 := by unfold ahead; omega
      obtain ⟨r, i1, i2⟩ := month_loop s y 8000000 (days - ahead y) 1 (by omega) (by omega) (by omega) (by omega) (by omega) (by omega)
      refine ⟨r, Ev.step (fun k => ?_) i1, Ev.step (fun k => ?_) i2⟩
      · simp only [spec_l2At.l0]
        rw [hw, a1]
        simp only [Option.bind_some]
        rw [if_neg hle, b1]
        simp only [Option.bind_some]
        rw [wrap_id (x := days - ahead y) (by omega) (by omega)]
      · simp only [impl_DateAt.l0]
        rw [hw, a2]
        simp only [Option.bind_some]
        rw [if_neg hle, b2]
        simp only [Option.bind_some]
        rw [wrap_id (x := days - ahead y) (by omega) (by omega)]
theorem date_at (s : Int) : ∃ r, Ev (fun k => spec_DateAt.f k s) r ∧ Ev (fun k => impl_DateAt.f k s) r := by
  unfold spec_DateAt.f impl_DateAt.f spec_l2At.f
  rw [in_eq, within_eq]
  simp only [Option.bind_some]
  cases hg : decide (0 ≤ s) && decide (s ≤ 253402300799) with
  | false => exact ⟨_, Ev.neg (by decide) (Ev.now _), Ev.neg (by decide) (Ev.now _)⟩
  | true =>
    simp only [Bool.and_eq_true, decide_eq_true_eq] at hg
    have e : wrap64 (Int.tdiv s 86400) = s / 86400 := by rw [Int.tdiv_eq_ediv_of_nonneg hg.1]; exact wrap_id (by omega) (by omega)
    have e2 : wrap64 (Int.tdiv (s / 86400) 366) = s / 86400 / 366 := by rw [Int.tdiv_eq_ediv_of_nonneg (by omega)]; exact wrap_id (by omega) (by omega)
    have e3 : wrap64 (1970 + s / 86400 / 366) = 1970 + s / 86400 / 366 := wrap_id (by omega) (by omega)
    obtain ⟨r, i1, i2⟩ := year_loop s (s / 86400) (by omega) (by omega) 9000 (1970 + s / 86400 / 366) (by omega) (by omega) (by omega)
    rw [e, e2, e3]
    exact ⟨withTrue r, Ev.pos rfl (Ev.bind i1 (Ev.now _)), Ev.pos rfl i2⟩
end Go.Proofs.Ytehflacblgliiaa.Q

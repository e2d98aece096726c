/- Addresses in one way: the reference's and the program's are one. No condition. -/
import Derived.Test.YtehflacblgliiaaDoorF2
import Derived.Test.YtehflacblgliiaaDoorF4
import Derived.Test.YtehflacblgliiaaDoorF3
import Derived.Test.YtehflacblgliiaaDoorQDots
import Derived.Test.YtehflacblgliiaaDoorQPercent
import Derived.Test.YtehflacblgliiaaDoorQGood
namespace Go.Proofs.YtehflacblgliiaaDoor.Q
set_option linter.unusedVariables false
set_option linter.unusedSimpArgs false
open Go.RowKit Go.Proofs.YtehflacblgliiaaDoor.F Go.Proofs.YtehflacblgliiaaDoorHw Go.Proofs.YtehflacblgliiaaDoorPl Go.Proofs.YtehflacblgliiaaDoorW.PrintWords
set_option maxRecDepth 100000 in
theorem norm_byte : ∀ b : Fin 256, spec_l1Free.f (b.val : Int) = impl_isUnreserved.f (b.val : Int) ∧ (impl_isUnreserved.f (b.val : Int)).isSome = true ∧ spec_l1Percent.f (b.val : Int) = impl_encoded.f (b.val : Int) ∧ (impl_encoded.f (b.val : Int)).map ByteArray.size = some 3 := by decide +kernel
/-- Percents told in one way. -/
theorem plain_loop (s : ByteArray) (hs : s.size ≤ 1048576) : ∀ (d i : Nat) (xs : List Int), s.size ≤ i + d → i ≤ s.size → xs.length ≤ i → i ≤ 3 * xs.length →
    ∃ r : ByteArray, Ev (fun k => spec_l1Plain.l0 k s (strOfNums xs) (i : Int)) r ∧ Ev (fun k => impl_normalPercents.l0 k s xs (i : Int)) r ∧ r.size ≤ s.size ∧ s.size ≤ 3 * r.size := by
  intro d
  induction d with
  | zero =>
    intro i xs h1 h2 h3 h4
    refine ⟨strOfNums xs, Ev.step (fun k => ?_) (Ev.now _), Ev.step (fun k => ?_) (Ev.now _), by rw [strOfNums_size]; omega, by rw [strOfNums_size]; omega⟩
    · simp only [spec_l1Plain.l0]; rw [if_neg (by omega)]
    · simp only [impl_normalPercents.l0]; rw [if_neg (by omega)]
  | succ d ih =>
    intro i xs h1 h2 h3 h4
    by_cases hlt : i < s.size
    · have hw := wrap_succ (i := i) (n := s.size) hlt (by omega)
      have w2 : wrap64 ((i : Int) + 2) = ((i + 2 : Nat) : Int) := wrap_add (n := 2) (by omega)
      have w3 : wrap64 (((i + 2 : Nat) : Int) + 1) = ((i + 3 : Nat) : Int) := wrap_add (n := 1) (by omega)
      obtain ⟨v, v0, v1, p1, p2, p3⟩ := percent_both s (by omega) i hlt
      have hx1 := extract_one s i hlt
      have SL : ∀ r, Ev (fun k => if v < 0 then spec_l1Plain.l0 k s (strOfNums xs ++ s.extract i (i + 1)) ((i + 1 : Nat) : Int) else ((spec_l1Free.f (v % 256)).bind fun t309 => (if t309 = true then ((some (([v % 256] : List Int) : List Int)).bind fun y310 => (if (strOfNums xs).size + (strOfNums y310).size ≤ 9223372036854775807 then (spec_l1Plain.l0 k s (strOfNums xs ++ (strOfNums y310)) ((i + 3 : Nat) : Int)) else (none))) else ((spec_l1Percent.f (v % 256)).bind fun t313 => (if (strOfNums xs).size + t313.size ≤ 9223372036854775807 then (spec_l1Plain.l0 k s (strOfNums xs ++ t313) ((i + 3 : Nat) : Int)) else (none)))))) r → Ev (fun k => spec_l1Plain.l0 k s (strOfNums xs) (i : Int)) r := fun r hr => by
        refine Ev.step (fun k => rfl) ?_
        simp only [spec_l1Plain.l0]
        rw [hw, w2, w3]
        refine Ev.pos (by omega) (Ev.bind p1 ?_)
        by_cases hv : v < 0
        · simp only [if_pos hv] at hr
          refine Ev.pos hv (Ev.pos (by omega) (Ev.pos (by omega) (Ev.pos (by omega) ?_)))
          simp only [Int.toNat_natCast]
          refine Ev.pos ?_ hr
          rw [strOfNums_size, extract_size s _ _ (by omega)]
          omega
        · simp only [if_neg hv] at hr
          exact Ev.neg hv hr
      by_cases hv : v < 0
      · obtain ⟨r, i1, i2, i3⟩ := ih (i + 1) (xs ++ [bt s (i : Int)]) (by omega) (by omega) (by simp; omega) (by simp; omega)
        refine ⟨r, SL r (Ev.pos hv ?_), ?_, i3⟩
        · rw [hx1, ← strOfNums_append]; exact i1
        · rw [if_pos hv] at p2
          refine Ev.step (fun k => rfl) ?_
          simp only [impl_normalPercents.l0, Int.toNat_natCast]
          rw [hw]
          exact Ev.pos (by omega) (Ev.pos (by omega) (Ev.pos (by omega) (Ev.bind p2 (Ev.neg (by decide) (Ev.pos (by omega) i2)))))
      · rw [if_neg hv] at p2
        have hroom := p3 (by omega)
        obtain ⟨b, hb⟩ : ∃ b : Fin 256, v = (b.val : Int) := ⟨⟨v.toNat, by omega⟩, by simp; omega⟩
        obtain ⟨e1, e2, e3, e4⟩ := norm_byte b
        rw [← hb] at e1 e2 e3 e4
        have hm : v % 256 = v := by omega
        obtain ⟨t, ht⟩ := Option.isSome_iff_exists.1 e2
        rw [ht] at e1
        have IL : ∀ r, Ev (fun k => if t = true then (if xs.length < 140737488355328 then (impl_normalPercents.l0 k s (xs ++ [v]) ((i + 3 : Nat) : Int)) else (none)) else ((impl_encoded.f v).bind fun t342 => (if xs.length + t342.size < 140737488355328 then (impl_normalPercents.l0 k s (xs ++ bytesOf t342) ((i + 3 : Nat) : Int)) else (none)))) r → Ev (fun k => impl_normalPercents.l0 k s xs (i : Int)) r := fun r hr => by
          refine Ev.step (fun k => rfl) ?_
          simp only [impl_normalPercents.l0, Int.toNat_natCast]
          rw [w2, w3]
          exact Ev.pos (by omega) (Ev.pos (by omega) (Ev.pos (by omega) (Ev.bind p2 (Ev.pos rfl (Ev.bnd ht hr)))))
        rw [hm] at SL
        cases t with
        | true =>
          obtain ⟨r, i1, i2, i3⟩ := ih (i + 3) (xs ++ [v]) (by omega) (by omega) (by simp; omega) (by simp; omega)
          refine ⟨r, SL r (Ev.neg hv (Ev.bnd e1 (Ev.pos rfl (Ev.bnd rfl (Ev.pos ?_ ?_))))), IL r (Ev.pos rfl (Ev.pos (by omega) i2)), i3⟩
          · rw [strOfNums_size, strOfNums_size]; simp; omega
          · rw [← strOfNums_append]; exact i1
        | false =>
          obtain ⟨e, he, hz⟩ := Option.map_eq_some_iff.1 e4
          rw [he] at e3
          obtain ⟨r, i1, i2, i3⟩ := ih (i + 3) (xs ++ bytesOf e) (by omega) (by omega) (by rw [List.length_append, bytesOf_length]; omega) (by rw [List.length_append, bytesOf_length]; omega)
          refine ⟨r, SL r (Ev.neg hv (Ev.bnd e1 (Ev.neg (by decide) (Ev.bnd e3 (Ev.pos ?_ ?_))))), IL r (Ev.neg (by decide) (Ev.bnd he (Ev.pos (by omega) i2))), i3⟩
          · rw [strOfNums_size]; omega
          · have : strOfNums xs ++ e = strOfNums (xs ++ bytesOf e) := by rw [strOfNums_append, bytesOf_numsOf, strOfNums_numsOf]
            rw [this]; exact i1
    · have : i = s.size := by omega
      refine ⟨strOfNums xs, Ev.step (fun k => ?_) (Ev.now _), Ev.step (fun k => ?_) (Ev.now _), by rw [strOfNums_size]; omega, by rw [strOfNums_size]; omega⟩
      · simp only [spec_l1Plain.l0]; rw [if_neg (by omega)]
      · simp only [impl_normalPercents.l0]; rw [if_neg (by omega)]
theorem plain_eq (s : ByteArray) (hs : s.size ≤ 1048576) : ∃ r : ByteArray, Ev (fun k => spec_l1Plain.f k s) r ∧ Ev (fun k => impl_normalPercents.f k s) r ∧ r.size ≤ s.size ∧ s.size ≤ 3 * r.size := by
  obtain ⟨r, r1, r2, r3⟩ := plain_loop s hs s.size 0 [] (by omega) (by omega) (by simp) (by simp)
  exact ⟨r, by unfold spec_l1Plain.f; exact r1, by unfold impl_normalPercents.f; exact r2, r3⟩
/-- An address in one way. -/
theorem normal_eq (a b : ByteArray) (n : Int) (c d : ByteArray) (e : Bool) (hb : b.size ≤ 1048576) (hc : c.size ≤ 1048576) (hc1 : 1 ≤ c.size) (hd : d.size ≤ 1048576) :
    ∃ (b' : ByteArray) (n' : Int) (c' d' : ByteArray), Ev (fun k => spec_l1Normal.f k a b n c d e) (a, b', n', c', d', e) ∧ Ev (fun k => impl_normal.f k a b n c d e) (a, b', n', c', d', e) := by
  obtain ⟨p, p1, p2, p3, p4⟩ := plain_eq c hc
  obtain ⟨q, q1, q2, q3, q4⟩ := plain_eq d hd
  obtain ⟨r, r1, r2, _⟩ := dots_eq p (by omega) (by omega)
  have J : ∀ (x : Bool) (t : ByteArray), ∃ n' : Int, Ev (fun k => spec_l1Normal.j0 k x a t n c d e) (a, t, n', r, q, e) ∧ Ev (fun k => impl_normal.j0 k x a t n c d e) (a, t, n', r, q, e) := fun x t => by
    cases x with
    | true =>
      refine ⟨0, ?_, ?_⟩
      · refine Ev.step (fun k => rfl) ?_
        simp only [spec_l1Normal.j0]
        exact Ev.pos (by trivial) (Ev.bind p1 (Ev.bind r1 (Ev.bind q1 (Ev.now _))))
      · refine Ev.step (fun k => rfl) ?_
        simp only [impl_normal.j0]
        exact Ev.pos (by trivial) (Ev.bind p2 (Ev.bind r2 (Ev.bind q2 (Ev.now _))))
    | false =>
      refine ⟨n, ?_, ?_⟩
      · refine Ev.step (fun k => rfl) ?_
        simp only [spec_l1Normal.j0]
        exact Ev.neg (by decide) (Ev.bind p1 (Ev.bind r1 (Ev.bind q1 (Ev.now _))))
      · refine Ev.step (fun k => rfl) ?_
        simp only [impl_normal.j0]
        exact Ev.neg (by decide) (Ev.bind p2 (Ev.bind r2 (Ev.bind q2 (Ev.now _))))
  have l1 : spec_l1Lower.f b = some (strOfNums ((numsOf b).map lowI)) := by unfold spec_l1Lower.f; exact if_pos (by omega)
  have l2 : impl_small.f b = some (strOfNums ((numsOf b).map lowI)) := by unfold impl_small.f; exact if_pos (by omega)
  generalize strOfNums ((numsOf b).map lowI) = t at l1 l2
  unfold spec_l1Normal.f impl_normal.f
  by_cases h1 : a.toList = ([104, 116, 116, 112] : List UInt8)
  · by_cases h2 : n = 80
    · obtain ⟨n', m1, m2⟩ := J true t
      exact ⟨t, n', r, q, Ev.bnd l1 (Ev.pos h1 (Ev.pos h2 m1)), Ev.bnd l2 (Ev.pos h1 (Ev.pos h2 m2))⟩
    · by_cases h3 : a.toList = ([104, 116, 116, 112, 115] : List UInt8)
      · obtain ⟨n', m1, m2⟩ := J (n == 443) t
        exact ⟨t, n', r, q, Ev.bnd l1 (Ev.pos h1 (Ev.neg h2 (Ev.pos h3 m1))), Ev.bnd l2 (Ev.pos h1 (Ev.neg h2 (Ev.pos h3 m2)))⟩
      · obtain ⟨n', m1, m2⟩ := J false t
        exact ⟨t, n', r, q, Ev.bnd l1 (Ev.pos h1 (Ev.neg h2 (Ev.neg h3 m1))), Ev.bnd l2 (Ev.pos h1 (Ev.neg h2 (Ev.neg h3 m2)))⟩
  · by_cases h3 : a.toList = ([104, 116, 116, 112, 115] : List UInt8)
    · obtain ⟨n', m1, m2⟩ := J (n == 443) t
      exact ⟨t, n', r, q, Ev.bnd l1 (Ev.neg h1 (Ev.pos h3 m1)), Ev.bnd l2 (Ev.neg h1 (Ev.pos h3 m2))⟩
    · obtain ⟨n', m1, m2⟩ := J false t
      exact ⟨t, n', r, q, Ev.bnd l1 (Ev.neg h1 (Ev.neg h3 m1)), Ev.bnd l2 (Ev.neg h1 (Ev.neg h3 m2))⟩
end Go.Proofs.YtehflacblgliiaaDoor.Q

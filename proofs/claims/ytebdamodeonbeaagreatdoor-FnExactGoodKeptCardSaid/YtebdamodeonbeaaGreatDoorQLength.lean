/- The length that fields tell: the reference's loops and the program's are one. No condition. -/
import Derived.Test.YtebdamodeonbeaaGreatDoorF2
import Derived.Test.YtebdamodeonbeaaGreatDoorF4
import Derived.Test.YtebdamodeonbeaaGreatDoorQNum
import Derived.Test.YtebdamodeonbeaaGreatDoorQValues
import Derived.Test.YtebdamodeonbeaaGreatDoorQListOf
namespace Go.Proofs.YtebdamodeonbeaaGreatDoor.Q
set_option linter.unusedVariables false
set_option linter.unusedSimpArgs false
open Go.RowKit Go.Proofs.YtebdamodeonbeaaGreatDoor.F Go.Proofs.YtebdamodeonbeaaGreatDoorHw Go.Proofs.YtebdamodeonbeaaGreatDoorPl Go.Proofs.YtebdamodeonbeaaGreatDoorW.PrintWords
/-- A digit. -/
def dig (c : UInt8) : Bool := (Lib.digitVal c).isSome
theorem dig_eq (c : UInt8) : dig c = (decide (48 ≤ (c.toNat : Int)) && decide ((c.toNat : Int) ≤ 57)) := by
  unfold dig Lib.digitVal
  by_cases h : 48 ≤ c.toNat ∧ c.toNat ≤ 57
  · rw [if_pos h, decide_eq_true (show 48 ≤ (c.toNat : Int) by omega), decide_eq_true (show (c.toNat : Int) ≤ 57 by omega)]; rfl
  · rw [if_neg h]
    by_cases h1 : 48 ≤ (c.toNat : Int)
    · rw [decide_eq_true h1, decide_eq_false (show ¬ (c.toNat : Int) ≤ 57 by omega)]; rfl
    · rw [decide_eq_false h1]; rfl
theorem digit_spec (c : UInt8) : spec_l1Digit.f (c.toNat : Int) = some (dig c) := by
  rw [dig_eq]
  unfold spec_l1Digit.f
  by_cases h : (c.toNat : Int) ≥ 48
  · rw [if_pos h, decide_eq_true (show 48 ≤ (c.toNat : Int) from h), Bool.true_and]
  · rw [if_neg h, decide_eq_false (show ¬ 48 ≤ (c.toNat : Int) from h), Bool.false_and]
theorem digit_impl (c : UInt8) : impl_isDigit.f (c.toNat : Int) = some (dig c) := digit_spec c
theorem dec_some : ∀ (l : List UInt8) (a : Nat), l.all dig = true → ∃ n, Lib.decFrom a l = some n
  | [], a, _ => ⟨a, rfl⟩
  | c :: r, a, h => by
    rw [List.all_cons, Bool.and_eq_true] at h
    obtain ⟨d, hd⟩ := Option.isSome_iff_exists.1 h.1
    obtain ⟨n, hn⟩ := dec_some r (a * 10 + d) h.2
    exact ⟨n, by simp only [Lib.decFrom, hd]; exact hn⟩
theorem byte_at (p : ByteArray) (i : Nat) (h : i < p.size) : ∃ c, p.data.toList[i]? = some c ∧ bt p (i : Int) = (c.toNat : Int) ∧ p.data.toList.drop i = c :: p.data.toList.drop (i + 1) := by
  have h' : i < p.data.toList.length := by rw [data_len]; exact h
  refine ⟨p.data.toList[i], List.getElem?_eq_getElem h', ?_, List.drop_eq_getElem_cons h'⟩
  exact (bt_at_place p i _ h).2 (List.getElem?_eq_getElem h')
theorem num_loop (p : ByteArray) (hp : p.size ≤ 9000000) : ∀ (d i : Nat) (acc : Int), i + d = p.size → 0 ≤ acc →
    ∃ t : Int, Ev (fun k => spec_l2Number.l0 k p 0 (p.size : Int) acc (i : Int)) t ∧ ((p.data.toList.drop i).all dig = false → t < 0) ∧
      ∀ a n : Nat, acc = a → a < 10 ^ i → p.size ≤ 9 → Lib.decFrom a (p.data.toList.drop i) = some n → t = n := by
  intro d
  induction d with
  | zero =>
    intro i acc hi h0
    have hd : p.data.toList.drop i = [] := List.drop_eq_nil_of_le (by rw [data_len]; omega)
    rw [hd]
    refine ⟨acc, ?_, fun h => (by cases h), fun a n ha _ _ hn => ?_⟩
    · refine Ev.step (fun k => rfl) ?_
      simp only [spec_l2Number.l0]
      rw [wrap_id (x := 0 + (p.size : Int)) (by omega) (by omega)]
      exact Ev.neg (by omega) (Ev.now _)
    · simp only [Lib.decFrom, Option.some.injEq] at hn
      omega
  | succ d ih =>
    intro i acc hi h0
    have hlt : i < p.size := by omega
    obtain ⟨c, hc, hb, hd⟩ := byte_at p i hlt
    have hs := digit_spec c
    rw [hd, List.all_cons]
    cases hg : dig c with
    | false =>
      rw [hg] at hs
      refine ⟨-1, ?_, fun _ => by decide, fun a n _ _ _ hn => ?_⟩
      · refine Ev.step (fun k => rfl) ?_
        simp only [spec_l2Number.l0]
        rw [wrap_id (x := 0 + (p.size : Int)) (by omega) (by omega), hb]
        exact Ev.pos (by omega) (Ev.pos (by omega) (Ev.pos (by omega) (Ev.bnd hs (Ev.neg Bool.false_ne_true (Ev.now _)))))
      · have : Lib.digitVal c = none := by
          unfold dig at hg
          exact Option.not_isSome_iff_eq_none.1 (by rw [hg]; decide)
        simp only [Lib.decFrom, this] at hn
        cases hn
    | true =>
      rw [hg] at hs
      have hr := hg
      rw [dig_eq] at hr
      simp only [Bool.and_eq_true, decide_eq_true_eq] at hr
      have hw0 : ∃ acc' : Int, acc' = wrap64 (wrap64 (10 * acc) + ((c.toNat : Int) - 48) % 256) := ⟨_, rfl⟩
      obtain ⟨acc', ha'⟩ := hw0
      have S : ∀ t, Ev (fun k => spec_l2Number.l0 k p 0 (p.size : Int) acc' ((i + 1 : Nat) : Int)) t → Ev (fun k => spec_l2Number.l0 k p 0 (p.size : Int) acc (i : Int)) t := fun t h => by
        refine Ev.step (fun k => rfl) ?_
        simp only [spec_l2Number.l0]
        rw [wrap_id (x := 0 + (p.size : Int)) (by omega) (by omega), hb, ← ha', wrap_succ hlt (by omega)]
        exact Ev.pos (by omega) (Ev.pos (by omega) (Ev.pos (by omega) (Ev.bnd hs (Ev.pos rfl h))))
      have tot : ∀ (e j : Nat) (x : Int), j + e = p.size → ∃ t : Int, Ev (fun k => spec_l2Number.l0 k p 0 (p.size : Int) x (j : Int)) t ∧ ((p.data.toList.drop j).all dig = false → t < 0) := by
        intro e
        induction e with
        | zero =>
          intro j x hj
          refine ⟨x, ?_, fun h => ?_⟩
          · refine Ev.step (fun k => rfl) ?_
            simp only [spec_l2Number.l0]
            rw [wrap_id (x := 0 + (p.size : Int)) (by omega) (by omega)]
            exact Ev.neg (by omega) (Ev.now _)
          · rw [List.drop_eq_nil_of_le (by rw [data_len]; omega)] at h
            cases h
        | succ e ihe =>
          intro j x hj
          have hjlt : j < p.size := by omega
          obtain ⟨c2, hc2, hb2, hd2⟩ := byte_at p j hjlt
          have hs2 := digit_spec c2
          cases hg2 : dig c2 with
          | false =>
            rw [hg2] at hs2
            refine ⟨-1, ?_, fun _ => by decide⟩
            refine Ev.step (fun k => rfl) ?_
            simp only [spec_l2Number.l0]
            rw [wrap_id (x := 0 + (p.size : Int)) (by omega) (by omega), hb2]
            exact Ev.pos (by omega) (Ev.pos (by omega) (Ev.pos (by omega) (Ev.bnd hs2 (Ev.neg Bool.false_ne_true (Ev.now _)))))
          | true =>
            rw [hg2] at hs2
            obtain ⟨t, t1, t2⟩ := ihe (j + 1) (wrap64 (wrap64 (10 * x) + ((c2.toNat : Int) - 48) % 256)) (by omega)
            refine ⟨t, ?_, fun h => t2 ?_⟩
            · refine Ev.step (fun k => rfl) ?_
              simp only [spec_l2Number.l0]
              rw [wrap_id (x := 0 + (p.size : Int)) (by omega) (by omega), hb2, wrap_succ hjlt (by omega)]
              exact Ev.pos (by omega) (Ev.pos (by omega) (Ev.pos (by omega) (Ev.bnd hs2 (Ev.pos rfl t1))))
            · rw [hd2, List.all_cons, hg2, Bool.true_and] at h
              exact h
      by_cases hsz : p.size ≤ 9 ∧ acc < 10 ^ i
      · have hpow : (10 : Nat) ^ i ≤ 10 ^ 8 := Nat.pow_le_pow_right (by decide) (by omega)
        have hpz : (10 : Int) ^ i = ((10 ^ i : Nat) : Int) := by push_cast; rfl
        have e1 : acc' = 10 * acc + ((c.toNat : Int) - 48) := by
          rw [ha', wrap_id (x := 10 * acc) (by omega) (by omega), wrap_id (by omega) (by omega)]; omega
        obtain ⟨t, t1, t2, t3⟩ := ih (i + 1) acc' (by omega) (by omega)
        refine ⟨t, S t t1, fun h => t2 (by rwa [Bool.true_and] at h), fun a n ha hlt2 h9 hn => ?_⟩
        obtain ⟨dv, hdv⟩ := Option.isSome_iff_exists.1 hg
        obtain ⟨_, hd10, hdn⟩ := of_digit c dv hdv
        simp only [Lib.decFrom, hdv] at hn
        refine t3 (a * 10 + dv) n (by rw [e1, ha, hdn]; push_cast; omega) ?_ h9 hn
        rw [Nat.pow_succ]; omega
      · obtain ⟨t, t1, t2⟩ := tot d (i + 1) acc' (by omega)
        refine ⟨t, S t t1, fun h => t2 (by rwa [Bool.true_and] at h), fun a n ha hlt2 h9 hn => absurd ⟨h9, ?_⟩ hsz⟩
        have hpz : (10 : Int) ^ i = ((10 ^ i : Nat) : Int) := by push_cast; rfl
        rw [hpz]; omega
/-- What both tell of a part. -/
theorem part_both (p : ByteArray) (hp : p.size ≤ 9000000) : ∃ (t n : Int) (o : Option Int), Ev (fun k => spec_l2Number.f k p 0 (p.size : Int)) t ∧ strconv_Atoi.f p = some (n, o) ∧ impl_areBytes_86.f p () = some (p.data.toList.all dig) ∧
    ((o.isNone = true ∧ ¬ (p.size : Int) > 9 ∧ p.data.toList.all dig = true ∧ 0 ≤ t ∧ p.toList ≠ ([] : List UInt8) ∧ n = t) ∨
      ((t < 0 ∨ (p.size : Int) > 9 ∨ p.toList = ([] : List UInt8)) ∧ (o.isNone = false ∨ (p.size : Int) > 9 ∨ p.data.toList.all dig = false))) := by
  obtain ⟨t, t1, t2, t3⟩ := num_loop p hp p.size 0 0 (by omega) (by omega)
  rw [List.drop_zero] at t2 t3
  have T : Ev (fun k => spec_l2Number.f k p 0 (p.size : Int)) t := by
    unfold spec_l2Number.f
    rw [wrap_id (x := 0 + (p.size : Int)) (by omega) (by omega)]
    exact Ev.neg (by omega) t1
  have A : impl_areBytes_86.f p () = some (p.data.toList.all dig) := by
    unfold impl_areBytes_86.f
    rw [if_pos (by omega)]
    have e : p.data.toList.all dig = (numsOf p).all (fun c => decide (48 ≤ c) && decide (c ≤ 57)) := by
      unfold numsOf
      rw [List.all_map]
      congr 1
      funext c
      exact dig_eq c
    rw [e]
    refine allO_all (fun x hx => ?_)
    unfold impl_isDigit.f
    by_cases h : x ≥ 48
    · rw [if_pos h, decide_eq_true (show 48 ≤ x from h), Bool.true_and]
    · rw [if_neg h, decide_eq_false (show ¬ 48 ≤ x from h), Bool.false_and]
  have N : ∃ (n : Int) (o : Option Int), strconv_Atoi.f p = some (n, o) := by
    unfold strconv_Atoi.f
    rw [if_pos (by omega)]
    cases Lib.atoiAll p.data.toList <;> exact ⟨_, _, rfl⟩
  cases hg : p.data.toList.all dig with
  | false =>
    rw [hg] at A
    obtain ⟨n, o, hn⟩ := N
    exact ⟨t, n, o, T, hn, A, .inr ⟨.inl (t2 hg), .inr (.inr rfl)⟩⟩
  | true =>
    rw [hg] at A
    by_cases h9 : (p.size : Int) > 9
    · obtain ⟨n, o, hn⟩ := N
      exact ⟨t, n, o, T, hn, A, .inr ⟨.inr (.inl h9), .inr (.inl h9)⟩⟩
    · by_cases he : p.size = 0
      · have hnil : p.data.toList = [] := List.eq_nil_of_length_eq_zero (by rw [data_len]; exact he)
        refine ⟨t, 0, some 0, T, ?_, A, .inr ⟨.inr (.inr ((list_of_size p).2 he)), .inl rfl⟩⟩
        unfold strconv_Atoi.f
        rw [if_pos (by omega), hnil]
        rfl
      · obtain ⟨n, hn⟩ := dec_some p.data.toList 0 hg
        have ht := t3 0 n rfl (by decide) (by omega) hn
        have ha := atoi_digits p.data.toList n (by rw [data_len]; omega) (fun e => he (by rw [← data_len, e]; rfl)) hn
        refine ⟨t, n, none, T, ?_, A, .inl ⟨rfl, h9, rfl, by omega, fun e => he ((list_of_size p).1 e), ht.symm⟩⟩
        unfold strconv_Atoi.f
        rw [if_pos (by omega), ha]
/-- What the reference holds, and what the program holds. -/
def Rel (n v : Int) (h : Bool) : Prop := (h = true ∧ n = v ∧ 0 ≤ v) ∨ (h = false ∧ n = -1 ∧ v = 0)
def End (r v : Int) (h o : Bool) : Prop := (o = false ∧ r = -2 ∧ v = 0 ∧ h = false) ∨ (o = true ∧ Rel r v h)
theorem parts (ws g : List ByteArray) (i : Nat) (hi : i < ws.length) (hw : ws.length ≤ 9000000) (hg : g.length ≤ 9000000) (hs : ∀ x ∈ g, x.size ≤ 9000000)
    (X : ∀ n v h, Rel n v h → ∃ r v' h' o, End r v' h' o ∧ Ev (fun k => spec_l4Length.l0 k n ws (ws.length : Int) ((i + 1 : Nat) : Int)) r ∧ Ev (fun k => impl_lengthOf.l0 k v h ws (ws.length : Int) ((i + 1 : Nat) : Int)) (v', h', o)) :
    ∀ (d j : Nat) (n v : Int) (h : Bool), j + d = g.length → Rel n v h → ∃ r v' h' o, End r v' h' o ∧ Ev (fun k => spec_l4Length.l1 k n ws (ws.length : Int) (i : Int) g (g.length : Int) (j : Int)) r ∧ Ev (fun k => impl_lengthOf.l1 k v h ws (ws.length : Int) (i : Int) g (g.length : Int) (j : Int)) (v', h', o) := by
  intro d
  induction d with
  | zero =>
    intro j n v h hj hR
    obtain ⟨r, v', h', o, e, a, b⟩ := X n v h hR
    refine ⟨r, v', h', o, e, Ev.step (fun k => rfl) ?_, Ev.step (fun k => rfl) ?_⟩
    · simp only [spec_l4Length.l1]
      rw [wrap_succ hi (by omega)]
      exact Ev.neg (by omega) a
    · simp only [impl_lengthOf.l1]
      rw [wrap_succ hi (by omega)]
      exact Ev.neg (by omega) b
  | succ d ih =>
    intro j n v h hj hR
    have hlt : j < g.length := by omega
    obtain ⟨t, m, o, T, N, A, hc⟩ := part_both g[j] (hs _ (List.getElem_mem hlt))
    have stop : End (-2) 0 false false := .inl ⟨rfl, rfl, rfl, rfl⟩
    have hget := rdOf_get g j hlt
    rcases hc with ⟨c1, c2, c3, c4, c5, rfl⟩ | ⟨cs, ci⟩
    · rw [c3] at A
      rcases hR with ⟨rfl, rfl, h0⟩ | ⟨rfl, rfl, rfl⟩
      · by_cases he : n = m
        · subst he
          obtain ⟨r, v', h', o', e, a, b⟩ := ih (j + 1) n n true (by omega) (.inl ⟨rfl, rfl, h0⟩)
          refine ⟨r, v', h', o', e, Ev.step (fun k => rfl) ?_, Ev.step (fun k => rfl) ?_⟩
          · simp only [spec_l4Length.l1]
            rw [hget, wrap_succ hlt (by omega)]
            exact Ev.pos (by omega) (Ev.pos (by omega) (Ev.pos (by omega) (Ev.bind T (Ev.neg (by omega) (Ev.neg c2 (Ev.neg c5 (Ev.pos h0 (Ev.pos rfl a))))))))
          · simp only [impl_lengthOf.l1]
            rw [hget, wrap_succ hlt (by omega)]
            exact Ev.pos (by omega) (Ev.pos (by omega) (Ev.pos (by omega) (Ev.bnd N (Ev.pos c1 (Ev.neg c2 (Ev.bnd A (Ev.pos rfl (Ev.pos (by trivial) (Ev.pos rfl b)))))))))
        · refine ⟨-2, 0, false, false, stop, Ev.step (fun k => rfl) ?_, Ev.step (fun k => rfl) ?_⟩
          · simp only [spec_l4Length.l1]
            rw [hget]
            exact Ev.pos (by omega) (Ev.pos (by omega) (Ev.pos (by omega) (Ev.bind T (Ev.neg (by omega) (Ev.neg c2 (Ev.neg c5 (Ev.pos h0 (Ev.neg he (Ev.now _)))))))))
          · simp only [impl_lengthOf.l1]
            rw [hget]
            exact Ev.pos (by omega) (Ev.pos (by omega) (Ev.pos (by omega) (Ev.bnd N (Ev.pos c1 (Ev.neg c2 (Ev.bnd A (Ev.pos rfl (Ev.pos (by trivial) (Ev.neg (fun e => he e.symm) (Ev.now _))))))))))
      · obtain ⟨r, v', h', o', e, a, b⟩ := ih (j + 1) m m true (by omega) (.inl ⟨rfl, rfl, c4⟩)
        refine ⟨r, v', h', o', e, Ev.step (fun k => rfl) ?_, Ev.step (fun k => rfl) ?_⟩
        · simp only [spec_l4Length.l1]
          rw [hget, wrap_succ hlt (by omega)]
          exact Ev.pos (by omega) (Ev.pos (by omega) (Ev.pos (by omega) (Ev.bind T (Ev.neg (by omega) (Ev.neg c2 (Ev.neg c5 (Ev.neg (by decide) a)))))))
        · simp only [impl_lengthOf.l1]
          rw [hget, wrap_succ hlt (by omega)]
          exact Ev.pos (by omega) (Ev.pos (by omega) (Ev.pos (by omega) (Ev.bnd N (Ev.pos c1 (Ev.neg c2 (Ev.bnd A (Ev.pos rfl (Ev.neg (by decide) b))))))))
    · refine ⟨-2, 0, false, false, stop, Ev.step (fun k => rfl) ?_, Ev.step (fun k => rfl) ?_⟩
      · simp only [spec_l4Length.l1]
        rw [hget]
        refine Ev.pos (by omega) (Ev.pos (by omega) (Ev.pos (by omega) (Ev.bind T ?_)))
        by_cases x1 : t < 0
        · exact Ev.pos x1 (Ev.now _)
        · refine Ev.neg x1 ?_
          by_cases x2 : (g[j].size : Int) > 9
          · exact Ev.pos x2 (Ev.now _)
          · rcases cs with cs | cs | cs
            · exact absurd cs x1
            · exact absurd cs x2
            · exact Ev.neg x2 (Ev.pos cs (Ev.now _))
      · simp only [impl_lengthOf.l1]
        rw [hget]
        refine Ev.pos (by omega) (Ev.pos (by omega) (Ev.pos (by omega) (Ev.bnd N ?_)))
        by_cases x1 : o.isNone = true
        · refine Ev.pos x1 ?_
          by_cases x2 : (g[j].size : Int) > 9
          · exact Ev.pos x2 (Ev.now _)
          · rcases ci with ci | ci | ci
            · rw [ci] at x1; cases x1
            · exact absurd ci x2
            · rw [ci] at A
              exact Ev.neg x2 (Ev.bnd A (Ev.neg Bool.false_ne_true (Ev.now _)))
        · exact Ev.neg x1 (Ev.now _)
theorem values_loop (ws : List ByteArray) (hw : ws.length ≤ 9000000) (hs : ∀ x ∈ ws, x.size ≤ 5000000) : ∀ (d i : Nat) (n v : Int) (h : Bool), i + d = ws.length → Rel n v h →
    ∃ r v' h' o, End r v' h' o ∧ Ev (fun k => spec_l4Length.l0 k n ws (ws.length : Int) (i : Int)) r ∧ Ev (fun k => impl_lengthOf.l0 k v h ws (ws.length : Int) (i : Int)) (v', h', o) := by
  intro d
  induction d with
  | zero =>
    intro i n v h hi hR
    refine ⟨n, v, h, true, .inr ⟨rfl, hR⟩, Ev.step (fun k => rfl) ?_, Ev.step (fun k => rfl) ?_⟩
    · simp only [spec_l4Length.l0]; exact Ev.neg (by omega) (Ev.now _)
    · simp only [impl_lengthOf.l0]; exact Ev.neg (by omega) (Ev.now _)
  | succ d ih =>
    intro i n v h hi hR
    have hlt : i < ws.length := by omega
    have hx := hs _ (List.getElem_mem hlt)
    obtain ⟨g, o, g0, gx, g1, g2⟩ := list_both ws[i] (by omega)
    have hget := rdOf_get ws i hlt
    have stop : End (-2) 0 false false := .inl ⟨rfl, rfl, rfl, rfl⟩
    have bad : Ev (fun k => spec_l4Length.j1 k n g ws (ws.length : Int) (i : Int) true) (-2) ∧ Ev (fun k => impl_lengthOf.j1 k v h g ws (ws.length : Int) (i : Int) true) (0, false, false) := by
      refine ⟨Ev.step (fun k => rfl) ?_, Ev.step (fun k => rfl) ?_⟩
      · simp only [spec_l4Length.j1]; exact Ev.pos (by trivial) (Ev.now _)
      · simp only [impl_lengthOf.j1]; exact Ev.pos (by trivial) (Ev.now _)
    have S : ∀ b r, (o = true ∧ b = ((g.length : Int) == 0) ∨ o = false ∧ b = true) → Ev (fun k => spec_l4Length.j1 k n g ws (ws.length : Int) (i : Int) b) r → Ev (fun k => spec_l4Length.l0 k n ws (ws.length : Int) (i : Int)) r := fun b r hb hr => by
      refine Ev.step (fun k => rfl) ?_
      simp only [spec_l4Length.l0]
      rw [hget]
      refine Ev.pos (by omega) (Ev.pos (by omega) (Ev.pos (by omega) (Ev.bind g1 ?_)))
      rcases hb with ⟨rfl, rfl⟩ | ⟨rfl, rfl⟩
      · exact Ev.pos rfl hr
      · exact Ev.neg Bool.false_ne_true hr
    have I : ∀ b r, (o = true ∧ b = ((g.length : Int) == 0) ∨ o = false ∧ b = true) → Ev (fun k => impl_lengthOf.j1 k v h g ws (ws.length : Int) (i : Int) b) r → Ev (fun k => impl_lengthOf.l0 k v h ws (ws.length : Int) (i : Int)) r := fun b r hb hr => by
      refine Ev.step (fun k => rfl) ?_
      simp only [impl_lengthOf.l0]
      rw [hget]
      refine Ev.pos (by omega) (Ev.pos (by omega) (Ev.pos (by omega) (Ev.bind g2 ?_)))
      rcases hb with ⟨rfl, rfl⟩ | ⟨rfl, rfl⟩
      · exact Ev.pos rfl hr
      · exact Ev.neg Bool.false_ne_true hr
    cases o with
    | false => exact ⟨-2, 0, false, false, stop, S true _ (.inr ⟨rfl, rfl⟩) bad.1, I true _ (.inr ⟨rfl, rfl⟩) bad.2⟩
    | true =>
      by_cases h0 : g.length = 0
      · have e : ((g.length : Int) == 0) = true := by rw [beq_iff_eq]; omega
        exact ⟨-2, 0, false, false, stop, S true _ (.inl ⟨rfl, e.symm⟩) bad.1, I true _ (.inl ⟨rfl, e.symm⟩) bad.2⟩
      · have e : ((g.length : Int) == 0) = false := by rw [beq_eq_false_iff_ne]; omega
        obtain ⟨r, v', h', o', en, a, b⟩ := parts ws g i hlt hw (by omega) (fun x hx2 => by have := gx x hx2; omega) (fun n v h hR => ih (i + 1) n v h (by omega) hR) g.length 0 n v h (by omega) hR
        refine ⟨r, v', h', o', en, S false _ (.inl ⟨rfl, e.symm⟩) (Ev.step (fun k => rfl) ?_), I false _ (.inl ⟨rfl, e.symm⟩) (Ev.step (fun k => rfl) ?_)⟩
        · simp only [spec_l4Length.j1]; exact Ev.neg (by decide) a
        · simp only [impl_lengthOf.j1]; exact Ev.neg (by decide) b
/-- What both tell of the length. -/
theorem length_both (l : List FdT) (hl : Small l) : ∃ r v h o, End r v h o ∧ Ev (fun k => spec_l4Length.f k l) r ∧ Ev (fun k => impl_lengthOf.f k l) (v, h, o) := by
  have hL := hl.1
  obtain ⟨v1, v2⟩ := vals_both l hl (⟨#[99, 111, 110, 116, 101, 110, 116, 45, 108, 101, 110, 103, 116, 104]⟩ : ByteArray) (by decide)
  have hlen := vals_length l (⟨#[99, 111, 110, 116, 101, 110, 116, 45, 108, 101, 110, 103, 116, 104]⟩ : ByteArray)
  have hmem : ∀ x ∈ vals l (⟨#[99, 111, 110, 116, 101, 110, 116, 45, 108, 101, 110, 103, 116, 104]⟩ : ByteArray), x.size ≤ 5000000 := fun x hx => by
    obtain ⟨y, hy, rfl⟩ := vals_mem hx
    have := (hl.2 y hy).2
    omega
  generalize hws : vals l (⟨#[99, 111, 110, 116, 101, 110, 116, 45, 108, 101, 110, 103, 116, 104]⟩ : ByteArray) = ws at v1 v2 hlen hmem
  obtain ⟨r, v, h, o, e, a, b⟩ := values_loop ws (by omega) hmem ws.length 0 (-1) 0 false (by omega) (.inr ⟨rfl, rfl, rfl⟩)
  refine ⟨r, v, h, o, e, ?_, ?_⟩
  · unfold spec_l4Length.f
    exact Ev.bind v1 a
  · unfold impl_lengthOf.f
    exact Ev.bind v2 b
end Go.Proofs.YtebdamodeonbeaaGreatDoor.Q

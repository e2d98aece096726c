/- Weights: the reference's reading and the program's are one. No condition. -/
import Derived.Test.YtmnddfiidnemiaaGreatDoorQWeight
namespace Go.Proofs.YtmnddfiidnemiaaGreatDoor.Q
set_option linter.unusedVariables false
set_option linter.unusedSimpArgs false
open Go.RowKit Go.Proofs.YtmnddfiidnemiaaGreatDoor.F Go.Proofs.YtmnddfiidnemiaaGreatDoorHw Go.Proofs.YtmnddfiidnemiaaGreatDoorPl Go.Proofs.YtmnddfiidnemiaaGreatDoorW.PrintWords
/-- What both tell of a weight: the number, or that it is none. -/
def Both (L : List UInt8) : Prop := ∃ (t n : Int) (o : Bool), Ev (fun k => spec_l3Weight.f k (tx L)) t ∧ impl_weightOf.f (tx L) = some (n, o) ∧ ((o = true ∧ t = n ∧ 0 ≤ t) ∨ (o = false ∧ t < 0))
theorem both_good {L : List UInt8} {v : Nat} (hs : Ev (fun k => spec_l3Weight.f k (tx L)) (if (v : Int) > 1000 then -1 else (v : Int))) (hi : impl_weightOf.f (tx L) = some ((v : Int), decide ((v : Int) ≤ 1000))) : Both L := by
  by_cases h : (v : Int) > 1000
  · rw [if_pos h] at hs
    exact ⟨-1, v, _, hs, hi, .inr ⟨decide_eq_false (by omega), by decide⟩⟩
  · rw [if_neg h] at hs
    exact ⟨v, v, _, hs, hi, .inl ⟨decide_eq_true (by omega), rfl, by omega⟩⟩
theorem both_bad {L : List UInt8} {n : Int} (hs : Ev (fun k => spec_l3Weight.f k (tx L)) (-1)) (hi : impl_weightOf.f (tx L) = some (n, false)) : Both L := ⟨-1, n, false, hs, hi, .inr ⟨rfl, by decide⟩⟩
theorem spec_dotted (c : UInt8) (P : List UInt8) (r : Int) (hc : c = 48 ∨ c = 49) (h1 : 1 ≤ P.length) (h3 : P.length ≤ 3) (h : Ev (fun k => spec_l3Weight.l0 k (tx (c :: 46 :: P)) (1000 * ((c.toNat : Int) - 48)) 100 2) r) : Ev (fun k => spec_l3Weight.f k (tx (c :: 46 :: P))) r := by
  have hz : (tx (c :: 46 :: P)).size = P.length + 2 := by rw [tx_size]; rfl
  have b0 : bt (tx (c :: 46 :: P)) 0 = (c.toNat : Int) := tx_head c (46 :: P)
  have b1 : bt (tx (c :: 46 :: P)) 1 = 46 := byte_get (c :: 46 :: P) 1 46 rfl
  refine front_good (by omega) (by omega) (by omega) ?_ (dot_step (by omega) (by omega) b1 ?_)
  · rw [b0]
    rcases hc with rfl | rfl
    · exact .inl rfl
    · exact .inr rfl
  · rw [b0]; exact h
theorem c_range {c : UInt8} (hc : c = 48 ∨ c = 49) : isD (c.toNat : Int) ∧ c.toNat ≤ 49 := by
  rcases hc with rfl | rfl
  · exact ⟨⟨by decide, by decide⟩, by decide⟩
  · exact ⟨⟨by decide, by decide⟩, by decide⟩
/-- A sign, a dot and one to three signs behind it. -/
theorem both_dotted (c : UInt8) (P : List UInt8) (hc : c = 48 ∨ c = 49) (h1 : 1 ≤ P.length) (h3 : P.length ≤ 3) (hcut : strings_Cut.f (tx (c :: 46 :: P)) (⟨#[46]⟩ : ByteArray) = some (tx [c], tx P, true)) : Both (c :: 46 :: P) := by
  obtain ⟨hcd, hc49⟩ := c_range hc
  have hW : ([c] : List UInt8) = [48] ∨ ([c] : List UInt8) = [49] := by
    rcases hc with rfl | rfl
    · exact .inl rfl
    · exact .inr rfl
  have I := fun n e ha => weight_impl (c :: 46 :: P) [c] P true (by simp only [List.length_cons]; omega) (by simp) (by omega) hcut n e ha
  have z48 : Lib.digitVal 48 = some 0 := by decide
  have B2 : ∀ (i : Nat) (x : UInt8), P[i]? = some x → bt (tx (c :: 46 :: P)) ((i + 2 : Nat) : Int) = (x.toNat : Int) := fun i x h => byte_get (c :: 46 :: P) (i + 2) x h
  have bad : ∀ r : Unit, P.all dg = false → Ev (fun k => spec_l3Weight.f k (tx (c :: 46 :: P))) (-1) → Both (c :: 46 :: P) := fun _ hp hs => by
    have N : ∃ n e, strconv_Atoi.f (tx ([c] ++ (P ++ [48, 48, 48]).take 3)) = some (n, e) := by
      unfold strconv_Atoi.f
      rw [if_pos (by rw [tx_size]; simp only [List.length_append, List.length_take, List.length_cons, List.length_nil]; omega)]
      cases Lib.atoiAll (tx ([c] ++ (P ++ [48, 48, 48]).take 3)).data.toList <;> exact ⟨_, _, rfl⟩
    obtain ⟨n, e, hn⟩ := N
    have := I n e (fun _ => hn)
    rw [if_neg (fun h => by rw [hp] at h; exact Bool.false_ne_true h.2.1)] at this
    exact both_bad hs this
  have good : ∀ (n : Nat) (e : Option Int), P.all dg = true → strconv_Atoi.f (tx ([c] ++ (P ++ [48, 48, 48]).take 3)) = some ((n : Int), e) → Ev (fun k => spec_l3Weight.f k (tx (c :: 46 :: P))) (if (n : Int) > 1000 then -1 else (n : Int)) → Both (c :: 46 :: P) := fun n e hp ha hs => by
    have := I n e (fun _ => ha)
    rw [if_pos ⟨.inr ⟨h1, h3⟩, hp, hW⟩] at this
    exact both_good hs this
  have hx : 0 ≤ 1000 * ((c.toNat : Int) - 48) ∧ 1000 * ((c.toNat : Int) - 48) ≤ 1000 := by have := hcd.1; omega
  have hz : (tx (c :: 46 :: P)).size = P.length + 2 := by rw [tx_size]; rfl
  have hz5 : (tx (c :: 46 :: P)).size ≤ 5 := by omega
  match P, h1, h3, B2, bad, good, hz, hz5 with
  | [a], _, _, B2, bad, good, hz, hz5 =>
    have ba := B2 0 a rfl
    cases ga : dg a with
    | false =>
      refine bad () (by simp [ga]) (spec_dotted c [a] _ hc (by simp) (by simp) ?_)
      exact stop_digit (i := 2) hz5 (by omega) (by rw [hz]; simp) (by rw [ba]; exact fun h => by rw [dg_is.2 h] at ga; cases ga)
    | true =>
      have da := dg_is.1 ga
      refine good _ none (by simp [ga]) (dec_four c a 48 48 _ _ _ _ (dig_val hcd) (dig_val da) z48 z48) (spec_dotted c [a] _ hc (by simp) (by simp) ?_)
      refine step_digit (i := 2) hz5 (by omega) (by rw [hz]; simp) (by rw [ba]; exact da) (by omega) (by omega) ?_
      rw [ba, show ((2 + 1 : Nat) : Int) = (((tx [c, 46, a]).size : Nat) : Int) by rw [hz]; rfl]
      have e : 1000 * ((c.toNat : Int) - 48) + 100 * ((a.toNat : Int) - 48) = ((1000 * (c.toNat - 48) + 100 * (a.toNat - 48) + 10 * 0 + 0 : Nat) : Int) := by have := da.1; have := hcd.1; omega
      rw [e]
      exact end_weight
  | [a, b], _, _, B2, bad, good, hz, hz5 =>
    have ba := B2 0 a rfl
    have bb := B2 1 b rfl
    cases ga : dg a with
    | false =>
      refine bad () (by simp [ga]) (spec_dotted c [a, b] _ hc (by simp) (by simp) ?_)
      exact stop_digit (i := 2) hz5 (by omega) (by rw [hz]; simp) (by rw [ba]; exact fun h => by rw [dg_is.2 h] at ga; cases ga)
    | true =>
      have da := dg_is.1 ga
      have ra : 0 ≤ (a.toNat : Int) - 48 ∧ (a.toNat : Int) - 48 ≤ 9 := by have := da.1; have := da.2; omega
      have S2 : ∀ r, Ev (fun k => spec_l3Weight.l0 k (tx [c, 46, a, b]) (1000 * ((c.toNat : Int) - 48) + 100 * ((a.toNat : Int) - 48)) (100 / 10) ((2 + 1 : Nat) : Int)) r → Ev (fun k => spec_l3Weight.f k (tx [c, 46, a, b])) r := fun r h => by
        refine spec_dotted c [a, b] _ hc (by simp) (by simp) (step_digit (i := 2) hz5 (by omega) (by rw [hz]; simp) (by rw [ba]; exact da) (by omega) (by omega) ?_)
        rw [ba]; exact h
      cases gb : dg b with
      | false =>
        refine bad () (by simp [gb]) (S2 _ ?_)
        exact stop_digit (i := 3) hz5 (by omega) (by rw [hz]; simp) (by rw [bb]; exact fun h => by rw [dg_is.2 h] at gb; cases gb)
      | true =>
        have db := dg_is.1 gb
        refine good _ none (by simp [ga, gb]) (dec_four c a b 48 _ _ _ _ (dig_val hcd) (dig_val da) (dig_val db) z48) (S2 _ ?_)
        refine step_digit (i := 3) hz5 (by omega) (by rw [hz]; simp) (by rw [bb]; exact db) (by omega) (by omega) ?_
        rw [bb, show ((3 + 1 : Nat) : Int) = (((tx [c, 46, a, b]).size : Nat) : Int) by rw [hz]; rfl]
        have e : 1000 * ((c.toNat : Int) - 48) + 100 * ((a.toNat : Int) - 48) + 100 / 10 * ((b.toNat : Int) - 48) = ((1000 * (c.toNat - 48) + 100 * (a.toNat - 48) + 10 * (b.toNat - 48) + 0 : Nat) : Int) := by have := da.1; have := hcd.1; have := db.1; omega
        rw [e]
        exact end_weight
  | [a, b, d], _, _, B2, bad, good, hz, hz5 =>
    have ba := B2 0 a rfl
    have bb := B2 1 b rfl
    have bd := B2 2 d rfl
    cases ga : dg a with
    | false =>
      refine bad () (by simp [ga]) (spec_dotted c [a, b, d] _ hc (by simp) (by simp) ?_)
      exact stop_digit (i := 2) hz5 (by omega) (by rw [hz]; simp) (by rw [ba]; exact fun h => by rw [dg_is.2 h] at ga; cases ga)
    | true =>
      have da := dg_is.1 ga
      have ra : 0 ≤ (a.toNat : Int) - 48 ∧ (a.toNat : Int) - 48 ≤ 9 := by have := da.1; have := da.2; omega
      have S2 : ∀ r, Ev (fun k => spec_l3Weight.l0 k (tx [c, 46, a, b, d]) (1000 * ((c.toNat : Int) - 48) + 100 * ((a.toNat : Int) - 48)) (100 / 10) ((2 + 1 : Nat) : Int)) r → Ev (fun k => spec_l3Weight.f k (tx [c, 46, a, b, d])) r := fun r h => by
        refine spec_dotted c [a, b, d] _ hc (by simp) (by simp) (step_digit (i := 2) hz5 (by omega) (by rw [hz]; simp) (by rw [ba]; exact da) (by omega) (by omega) ?_)
        rw [ba]; exact h
      cases gb : dg b with
      | false =>
        refine bad () (by simp [gb]) (S2 _ ?_)
        exact stop_digit (i := 3) hz5 (by omega) (by rw [hz]; simp) (by rw [bb]; exact fun h => by rw [dg_is.2 h] at gb; cases gb)
      | true =>
        have db := dg_is.1 gb
        have rb : 0 ≤ (b.toNat : Int) - 48 ∧ (b.toNat : Int) - 48 ≤ 9 := by have := db.1; have := db.2; omega
        have S3 : ∀ r, Ev (fun k => spec_l3Weight.l0 k (tx [c, 46, a, b, d]) (1000 * ((c.toNat : Int) - 48) + 100 * ((a.toNat : Int) - 48) + 100 / 10 * ((b.toNat : Int) - 48)) (100 / 10 / 10) ((3 + 1 : Nat) : Int)) r → Ev (fun k => spec_l3Weight.f k (tx [c, 46, a, b, d])) r := fun r h => by
          refine S2 _ (step_digit (i := 3) hz5 (by omega) (by rw [hz]; simp) (by rw [bb]; exact db) (by omega) (by omega) ?_)
          rw [bb]; exact h
        cases gd : dg d with
        | false =>
          refine bad () (by simp [gd]) (S3 _ ?_)
          exact stop_digit (i := 4) hz5 (by omega) (by rw [hz]; simp) (by rw [bd]; exact fun h => by rw [dg_is.2 h] at gd; cases gd)
        | true =>
          have dd := dg_is.1 gd
          refine good _ none (by simp [ga, gb, gd]) (dec_four c a b d _ _ _ _ (dig_val hcd) (dig_val da) (dig_val db) (dig_val dd)) (S3 _ ?_)
          refine step_digit (i := 4) hz5 (by omega) (by rw [hz]; simp) (by rw [bd]; exact dd) (by omega) (by omega) ?_
          rw [bd, show ((4 + 1 : Nat) : Int) = (((tx [c, 46, a, b, d]).size : Nat) : Int) by rw [hz]; rfl]
          have e : 1000 * ((c.toNat : Int) - 48) + 100 * ((a.toNat : Int) - 48) + 100 / 10 * ((b.toNat : Int) - 48) + 100 / 10 / 10 * ((d.toNat : Int) - 48) = ((1000 * (c.toNat - 48) + 100 * (a.toNat - 48) + 10 * (b.toNat - 48) + (d.toNat - 48) : Nat) : Int) := by have := da.1; have := hcd.1; have := db.1; have := dd.1; omega
          rw [e]
          exact end_weight
/-- One sign. -/
theorem both_one (c : UInt8) (hc : c = 48 ∨ c = 49) (hcut : strings_Cut.f (tx [c]) (⟨#[46]⟩ : ByteArray) = some (tx [c], tx [], false)) : Both [c] := by
  obtain ⟨hcd, hc49⟩ := c_range hc
  have z48 : Lib.digitVal 48 = some 0 := by decide
  have I := weight_impl [c] [c] [] false (by simp) (by simp) (by decide) hcut _ none (fun _ => dec_four c 48 48 48 _ _ _ _ (dig_val hcd) z48 z48 z48)
  have hW : ([c] : List UInt8) = [48] ∨ ([c] : List UInt8) = [49] := by
    rcases hc with rfl | rfl
    · exact .inl rfl
    · exact .inr rfl
  rw [if_pos ⟨.inl rfl, rfl, hW⟩] at I
  refine both_good ?_ I
  have hz : (tx [c]).size = 1 := by rw [tx_size]; rfl
  have b0 : bt (tx [c]) 0 = (c.toNat : Int) := tx_head c []
  refine front_good (by omega) (by omega) (by omega) ?_ ?_
  · rw [b0]
    rcases hc with rfl | rfl
    · exact .inl rfl
    · exact .inr rfl
  · have h := @end_weight (tx [c]) (1000 * (bt (tx [c]) 0 - 48)) 100
    rw [b0, show 1000 * ((c.toNat : Int) - 48) = ((1000 * (c.toNat - 48) + 100 * 0 + 10 * 0 + 0 : Nat) : Int) by have := hcd.1; omega, hz] at h
    rw [b0, show 1000 * ((c.toNat : Int) - 48) = ((1000 * (c.toNat - 48) + 100 * 0 + 10 * 0 + 0 : Nat) : Int) by have := hcd.1; omega]
    exact h
/-- Both read one weight. -/
theorem weight_both (L : List UInt8) (hL : L.length ≤ 900) : Both L := by
  have N : ∀ l : List UInt8, l.length ≤ 2000 → ∃ n e, strconv_Atoi.f (tx l) = some (n, e) := fun l h => by
    unfold strconv_Atoi.f
    rw [if_pos (by rw [tx_size]; omega)]
    cases Lib.atoiAll (tx l).data.toList <;> exact ⟨_, _, rfl⟩
  have hz : (tx L).size = L.length := tx_size L
  rcases cut_both (tx L) 46 (by omega) with ⟨i, h1, h2, h3, _, h5⟩ | ⟨h1, _, h3⟩
  · have h2 : bt (tx L) (i : Int) = 46 := h2
    have h3 : ∀ j, j < i → bt (tx L) (j : Int) ≠ 46 := h3
    rw [tx_take, tx_drop] at h5
    by_cases hg : i = 1 ∧ (bt (tx L) 0 = 48 ∨ bt (tx L) 0 = 49) ∧ 3 ≤ L.length ∧ L.length ≤ 5
    · obtain ⟨rfl, hc, g1, g2⟩ := hg
      match L, g1, g2, h5, hc, h2 with
      | c :: x :: P, g1, g2, h5, hc, h2 =>
        have e0 : bt (tx (c :: x :: P)) 0 = (c.toNat : Int) := tx_head c (x :: P)
        have e1 : bt (tx (c :: x :: P)) 1 = (x.toNat : Int) := byte_get (c :: x :: P) 1 x rfl
        have ex : x = 46 := UInt8.toNat_inj.1 (by have h4 := e1.symm.trans h2; have : (46 : UInt8).toNat = 46 := rfl; omega)
        subst ex
        have ec : c = 48 ∨ c = 49 := by
          rw [e0] at hc
          rcases hc with h | h
          · exact .inl (UInt8.toNat_inj.1 (by have : (48 : UInt8).toNat = 48 := rfl; omega))
          · exact .inr (UInt8.toNat_inj.1 (by have : (49 : UInt8).toNat = 49 := rfl; omega))
        simp only [List.length_cons] at g1 g2
        exact both_dotted c P ec (by omega) (by omega) h5
    · obtain ⟨n, e, hn⟩ := N (L.take i ++ (L.drop (i + 1) ++ [48, 48, 48]).take 3) (by rw [List.length_append, List.length_take, List.length_take]; omega)
      have I := weight_impl L (L.take i) (L.drop (i + 1)) true (by omega) (by rw [List.length_take]; omega) (by rw [List.length_drop]; omega) h5 n e (fun _ => hn)
      rw [hz] at h1
      have hno : ¬ ((true = false ∨ (1 ≤ (L.drop (i + 1)).length ∧ (L.drop (i + 1)).length ≤ 3)) ∧ (L.drop (i + 1)).all dg = true ∧ (L.take i = [48] ∨ L.take i = [49])) := fun ⟨a, _, c⟩ => by
        rw [List.length_drop] at a
        have a := a.resolve_left (by decide)
        have hi : i = 1 := by
          have : (L.take i).length = 1 := by rcases c with c | c <;> rw [c] <;> rfl
          rw [List.length_take] at this
          omega
        subst hi
        refine hg ⟨rfl, ?_, by omega, by omega⟩
        cases L with
        | nil => rcases c with c | c <;> cases c
        | cons x r =>
          rw [tx_head]
          rcases c with c | c
          · rw [(List.cons.inj c).1]; exact .inl rfl
          · rw [(List.cons.inj c).1]; exact .inr rfl
      rw [if_neg hno] at I
      refine both_bad ?_ I
      by_cases hb : (tx L).size = 0 ∨ (tx L).size = 2 ∨ 5 < (tx L).size ∨ (bt (tx L) 0 ≠ 48 ∧ bt (tx L) 0 ≠ 49)
      · exact front_bad hb
      · have hb0 : bt (tx L) 0 = 48 ∨ bt (tx L) 0 = 49 := by omega
        have hi0 : i ≠ 0 := fun e0 => by
          subst e0
          have h2 : bt (tx L) 0 = 46 := h2
          omega
        have hi2 : 2 ≤ i := by
          by_cases hi1 : i = 1
          · exact absurd ⟨hi1, hb0, by omega, by omega⟩ hg
          · omega
        exact front_good (by omega) (by omega) (by omega) hb0 (dot_stop (by omega) (h3 1 (by omega)))
  · have h1 : ∀ j, j < (tx L).size → bt (tx L) (j : Int) ≠ 46 := h1
    have h3 : strings_Cut.f (tx L) (⟨#[46]⟩ : ByteArray) = some (tx L, tx [], false) := h3
    by_cases hc : L = [48] ∨ L = [49]
    · rcases hc with rfl | rfl
      · exact both_one 48 (.inl rfl) h3
      · exact both_one 49 (.inr rfl) h3
    · obtain ⟨n, e, hn⟩ := N (L ++ (([] : List UInt8) ++ [48, 48, 48]).take 3) (by rw [List.length_append, List.length_take]; omega)
      have I := weight_impl L L [] false (by omega) (by omega) (by decide) h3 n e (fun _ => hn)
      rw [if_neg (fun h => hc h.2.2)] at I
      refine both_bad ?_ I
      by_cases hb : (tx L).size = 0 ∨ (tx L).size = 2 ∨ 5 < (tx L).size ∨ (bt (tx L) 0 ≠ 48 ∧ bt (tx L) 0 ≠ 49)
      · exact front_bad hb
      · have hb0 : bt (tx L) 0 = 48 ∨ bt (tx L) 0 = 49 := by omega
        have h11 : (tx L).size ≠ 1 := fun e1 => by
          match L, e1, hb0, hc with
          | [c], _, hb0, hc =>
            have e0 : bt (tx [c]) 0 = (c.toNat : Int) := tx_head c []
            rw [e0] at hb0
            rcases hb0 with h | h
            · exact hc (.inl (by rw [show c = 48 from UInt8.toNat_inj.1 (by have : (48 : UInt8).toNat = 48 := rfl; omega)]))
            · exact hc (.inr (by rw [show c = 49 from UInt8.toNat_inj.1 (by have : (49 : UInt8).toNat = 49 := rfl; omega)]))
          | [], e1, _, _ => exact absurd e1 (by decide)
          | _ :: _ :: _, e1, _, _ => rw [tx_size] at e1; simp at e1
        exact front_good (by omega) (by omega) (by omega) hb0 (dot_stop (by omega) (h1 1 (by omega)))
end Go.Proofs.YtmnddfiidnemiaaGreatDoor.Q

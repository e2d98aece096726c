/- Choices: the reference's and the program's readings are one. No condition. -/
import Derived.Test.YtmnddfiidnemiaaGreatDoorF2
import Derived.Test.YtmnddfiidnemiaaGreatDoorF3
import Derived.Test.YtmnddfiidnemiaaGreatDoorF1
import Derived.Test.YtmnddfiidnemiaaGreatDoorQWeightB
import Derived.Test.YtmnddfiidnemiaaGreatDoorQTrimE
import Derived.Test.YtmnddfiidnemiaaGreatDoorQListQ
import Derived.Test.YtmnddfiidnemiaaGreatDoorQToken
import Derived.Test.YtmnddfiidnemiaaGreatDoorQList
namespace Go.Proofs.YtmnddfiidnemiaaGreatDoor.Q
set_option linter.unusedVariables false
set_option linter.unusedSimpArgs false
open Go.RowKit Go.Proofs.YtmnddfiidnemiaaGreatDoor.F Go.Proofs.YtmnddfiidnemiaaGreatDoorHw Go.Proofs.YtmnddfiidnemiaaGreatDoorPl Go.Proofs.YtmnddfiidnemiaaGreatDoorW.PrintWords
abbrev ChT : Type := S34
/-- A text in small letters. -/
def lowT (s : ByteArray) : ByteArray := strOfNums ((numsOf s).map lowI)
theorem lowT_size (s : ByteArray) : (lowT s).size = s.size := by
  unfold lowT
  rw [strOfNums_size, List.length_map, numsOf_length]
theorem lowT_spec (s : ByteArray) (h : s.size ≤ 9000000) : spec_l1Lower.f s = some (lowT s) := by
  unfold spec_l1Lower.f; exact if_pos (by omega)
theorem lowT_impl (s : ByteArray) (h : s.size ≤ 9000000) : impl_small.f s = some (lowT s) := by
  unfold impl_small.f; exact if_pos (by omega)
theorem q_cut_list (s : ByteArray) (i j : Nat) : (s.extract i j).data.toList = (s.data.toList.drop i).take (j - i) := by
  simp [ByteArray.data_extract]
theorem q_true (X : List UInt8) : strings_CutPrefix.f (tx ([113, 61] ++ X)) (⟨#[113, 61]⟩ : ByteArray) = some (tx X, true) := by
  have hsz : (tx ([113, 61] ++ X)).size = X.length + 2 := by rw [tx_size]; simp
  have hp : (((⟨#[113, 61]⟩ : ByteArray).size : Nat) : Int) = 2 := rfl
  have h1 : ((tx ([113, 61] ++ X)).extract 0 2).toList = (⟨#[113, 61]⟩ : ByteArray).toList := by
    rw [ByteArray.toList_eq, ByteArray.toList_eq, q_cut_list, tx_data]
    rfl
  have h2 : (tx ([113, 61] ++ X)).extract 2 (tx ([113, 61] ++ X)).size = tx X := by
    rw [tx_drop]
    rfl
  unfold strings_CutPrefix.f stringslite_CutPrefix.f stringslite_HasPrefix.f
  rw [hp, hsz, if_pos (by omega), if_pos (by omega), if_pos (by omega), show ((2 : Int)).toNat = 2 from rfl, h1, beq_self_eq_true]
  simp only [Option.bind_some, if_true]
  rw [← hsz, h2, if_pos (by omega), if_pos (by rw [hsz]; omega)]
  rfl
theorem q_false (L : List UInt8) (h : L.take 2 ≠ [113, 61]) : strings_CutPrefix.f (tx L) (⟨#[113, 61]⟩ : ByteArray) = some (tx L, false) := by
  have hp : (((⟨#[113, 61]⟩ : ByteArray).size : Nat) : Int) = 2 := rfl
  have h1 : ((tx L).extract 0 2).toList ≠ (⟨#[113, 61]⟩ : ByteArray).toList := by
    rw [ByteArray.toList_eq, ByteArray.toList_eq, q_cut_list, tx_data, List.drop_zero]
    exact h
  have H : stringslite_HasPrefix.f (tx L) (⟨#[113, 61]⟩ : ByteArray) = some false := by
    unfold stringslite_HasPrefix.f
    rw [hp]
    by_cases h2 : ((tx L).size : Int) ≥ 2
    · rw [if_pos h2, if_pos (by omega), if_pos (by omega), show ((2 : Int)).toNat = 2 from rfl, beq_eq_false_iff_ne.2 h1]
    · rw [if_neg h2]
  unfold strings_CutPrefix.f stringslite_CutPrefix.f
  rw [H]
  rfl
/-- What a part tells: the name, the weight, or nothing. -/
theorem choice_both (l : List ByteArray) (hl : l.length ≤ 1000) (i : Nat) (hi : i < l.length) (L : List UInt8) (hL : l[i] = tx L) (hlen : L.length ≤ 300) (hed : Edged L) (g : List ChT) (hg : g.length ≤ 1000) :
    ∃ (a : ByteArray) (b : Int) (ok : Bool), impl_choiceOf.f (tx L) = some (a, b, ok) ∧
      (ok = true → ∀ r, Ev (fun k => spec_ChoicesOf.l0 k (g ++ [⟨a, b⟩]) l (l.length : Int) ((i + 1 : Nat) : Int)) r → Ev (fun k => spec_ChoicesOf.l0 k g l (l.length : Int) (i : Int)) r) ∧
      (ok = false → Ev (fun k => spec_ChoicesOf.l0 k g l (l.length : Int) (i : Int)) ([], false)) ∧ (ok = true → 0 ≤ b) := by
  have hz : (tx L).size = L.length := tx_size L
  have hrd : rdOf ByteArray.empty l (i : Int) = tx L := (rdOf_get l i hi).trans hL
  -- the name, however it is cut
  have NM : ∀ W : List UInt8, W.length ≤ 300 → W.head? ≠ some 32 → ∃ nm : ByteArray, nm.size ≤ 300 ∧ Ev (fun k => spec_l3Trim.f k (tx W)) (tx (Lib.trimRightB W 32)) ∧ spec_l1Lower.f (tx (Lib.trimRightB W 32)) = some nm ∧ strings_TrimRight.f (tx W) (⟨#[32]⟩ : ByteArray) = some (tx (Lib.trimRightB W 32)) ∧ impl_small.f (tx (Lib.trimRightB W 32)) = some nm := fun W hW hh => by
    have e := trimR_enough W hh
    have hs : (tx W).size ≤ 300 := by rw [tx_size]; exact hW
    have t1 := trimmed_spec (tx W) (by omega)
    have t0 := trimmed_size (tx W)
    unfold trimmed at t1 t0
    rw [tx_data, e] at t1 t0
    have t2 := trimRight_impl (tx W) (by omega)
    rw [tx_data] at t2
    exact ⟨lowT _, by rw [lowT_size]; omega, t1, lowT_spec _ (by omega), t2, lowT_impl _ (by omega)⟩
  rcases cut_both (tx L) 59 (by omega) with ⟨p, h1, _, _, h4, h5⟩ | ⟨_, h4, h5⟩
  · have h4 : Ev (fun k => spec_l1Cut.f k (tx L) 59) ((tx L).extract 0 p, (tx L).extract (p + 1) (tx L).size, true) := h4
    rw [tx_take, tx_drop] at h4 h5
    rw [hz] at h1
    have hW : (L.take p).head? ≠ some 32 := by
      cases L with
      | nil => simp
      | cons c r =>
        rcases hed with h | ⟨h, _⟩
        · cases h
        · cases p with
          | zero => simp
          | succ p => rw [List.take_succ_cons]; exact h
    have hR : (L.drop (p + 1)).getLast? ≠ some 32 := by
      by_cases hd : L.drop (p + 1) = []
      · rw [hd]; simp
      · rcases hed with h | ⟨_, h⟩
        · rw [h] at h1; simp at h1
        · rw [List.getLast?_drop, if_neg (fun hh => hd (List.drop_eq_nil_of_le hh))]
          exact h
    obtain ⟨nm, n0, n1, n2, n3, n4⟩ := NM (L.take p) (by rw [List.length_take]; omega) hW
    have k1 := token_spec nm (by omega)
    have k2 := token_impl nm (by omega)
    have e := trimL_enough _ hR
    have hsR : (tx (L.drop (p + 1))).size ≤ 300 := by rw [tx_size, List.length_drop]; omega
    have q1 := trimmed_spec (tx (L.drop (p + 1))) (by omega)
    have q0 := trimmed_size (tx (L.drop (p + 1)))
    unfold trimmed at q1 q0
    rw [tx_data, e] at q1 q0
    have q2 := trimLeft_impl (tx (L.drop (p + 1))) (by omega)
    rw [tx_data] at q2
    generalize Lib.trimLeftB (L.drop (p + 1)) 32 = Y at q0 q1 q2
    rw [tx_size] at q0
    have hYz : (tx Y).size = Y.length := tx_size Y
    have S : ∀ b r, (¬ ((tx Y).size : Int) < 3 ∧ b = (((tx Y).extract 0 2).toList != ([113, 61] : List UInt8)) ∨ ((tx Y).size : Int) < 3 ∧ b = true) → Ev (fun k => spec_ChoicesOf.j2 k g (tx Y) l (l.length : Int) (i : Int) b nm 1000) r → Ev (fun k => spec_ChoicesOf.l0 k g l (l.length : Int) (i : Int)) r := fun b r hb hr => by
      refine Ev.step (fun k => rfl) ?_
      simp only [spec_ChoicesOf.l0]
      rw [hrd]
      refine Ev.pos (by omega) (Ev.pos (by omega) (Ev.pos (by omega) (Ev.bind h4 (Ev.bind n1 (Ev.bnd n2 (Ev.pos rfl (Ev.bind q1 ?_)))))))
      rcases hb with ⟨c1, rfl⟩ | ⟨c1, rfl⟩
      · exact Ev.neg c1 (Ev.pos (by decide) (Ev.pos (by omega) hr))
      · exact Ev.pos c1 hr
    have J : ∀ _ : Unit, Ev (fun k => spec_ChoicesOf.j2 k g (tx Y) l (l.length : Int) (i : Int) true nm 1000) ([], false) := fun _ => by
      refine Ev.step (fun k => rfl) ?_
      simp only [spec_ChoicesOf.j2]
      exact Ev.pos (by trivial) (Ev.now _)
    have I : ∀ (X : List UInt8) (f : Bool) (n : Int) (o : Bool), strings_CutPrefix.f (tx Y) (⟨#[113, 61]⟩ : ByteArray) = some (tx X, f) → impl_weightOf.f (tx X) = some (n, o) → impl_choiceOf.f (tx L) = some (if f = true ∧ o = true then (nm, n, tokenB nm) else ((⟨#[]⟩ : ByteArray), 0, false)) := fun X f n o c1 c2 => by
      unfold impl_choiceOf.f
      rw [h5]
      simp only [Option.bind_some]
      rw [n3]
      simp only [Option.bind_some]
      rw [n4]
      simp only [Option.bind_some, if_true]
      rw [q2]
      simp only [Option.bind_some]
      rw [c1]
      simp only [Option.bind_some]
      rw [c2]
      simp only [Option.bind_some]
      rw [k2]
      cases f <;> cases o <;> rfl
    by_cases hp : Y.take 2 = [113, 61]
    · obtain ⟨X, rfl⟩ : ∃ X, Y = [113, 61] ++ X := ⟨Y.drop 2, by rw [← hp]; exact (List.take_append_drop 2 Y).symm⟩
      rw [List.length_append] at q0 hYz
      have q0 : 2 + X.length ≤ 300 := by simpa using Nat.le_trans q0 hsR
      have hYz : (tx ([113, 61] ++ X)).size = 2 + X.length := hYz
      obtain ⟨t, n, o, w1, w2, w3⟩ := weight_both X (by omega)
      have hI := I X true n o (q_true X) w2
      have hx2 : (tx ([113, 61] ++ X)).extract 2 (tx ([113, 61] ++ X)).size = tx X := by rw [tx_drop]; rfl
      have hpre : (((tx ([113, 61] ++ X)).extract 0 2).toList != ([113, 61] : List UInt8)) = false := by
        rw [ByteArray.toList_eq, q_cut_list, tx_data]
        rfl
      have G : ∀ r, Ev (fun k => (spec_l3Token.f k nm).bind fun t130 => (if t130 = true then (if t < 0 then (some (([] : List ChT), false)) else (if g.length < 5864062014805 then (spec_ChoicesOf.l0 k (g ++ [(⟨nm, t⟩ : ChT)]) l (l.length : Int) (wrap64 ((i : Int) + 1))) else (none))) else (some (([] : List ChT), false)))) r → ¬ ((tx ([113, 61] ++ X)).size : Int) < 3 → Ev (fun k => spec_ChoicesOf.l0 k g l (l.length : Int) (i : Int)) r := fun r hr h3 => by
        refine S false r (.inl ⟨h3, hpre.symm⟩) (Ev.step (fun k => rfl) ?_)
        simp only [spec_ChoicesOf.j2]
        rw [hx2]
        exact Ev.neg (by decide) (Ev.pos (by omega) (Ev.bind w1 hr))
      cases o with
      | false =>
        rw [if_neg (fun h => Bool.false_ne_true h.2)] at hI
        have ht : t < 0 := by
          rcases w3 with ⟨h, _⟩ | ⟨_, h⟩
          · cases h
          · exact h
        refine ⟨_, _, false, hI, fun h => (by cases h), fun _ => ?_, fun h => (by cases h)⟩
        by_cases h3 : ((tx ([113, 61] ++ X)).size : Int) < 3
        · exact S true _ (.inr ⟨h3, rfl⟩) (J ())
        · refine G _ (Ev.bind k1 ?_) h3
          cases tokenB nm with
          | true => exact Ev.pos rfl (Ev.pos ht (Ev.now _))
          | false => exact Ev.neg Bool.false_ne_true (Ev.now _)
      | true =>
        rw [if_pos ⟨rfl, rfl⟩] at hI
        obtain ⟨rfl, h0⟩ : t = n ∧ 0 ≤ t := by
          rcases w3 with ⟨_, h⟩ | ⟨h, _⟩
          · exact h
          · cases h
        have h3 : ¬ ((tx ([113, 61] ++ X)).size : Int) < 3 := fun h => by
          have hX : X = [] := List.eq_nil_of_length_eq_zero (by omega)
          subst hX
          have := Ev.det w1 (front_bad (s := tx []) (.inl rfl))
          omega
        refine ⟨nm, t, tokenB nm, hI, fun hk r hr => G _ (Ev.bind k1 ?_) h3, fun hk => G _ (Ev.bind k1 ?_) h3, fun _ => h0⟩
        · rw [hk, wrap_succ hi (by omega)]
          exact Ev.pos rfl (Ev.neg (by omega) (Ev.pos (by omega) hr))
        · rw [hk]
          exact Ev.neg Bool.false_ne_true (Ev.now _)
    · obtain ⟨t, n, o, _, w2, _⟩ := weight_both Y (by omega)
      have hI := I Y false n o (q_false Y hp) w2
      rw [if_neg (fun h => Bool.false_ne_true h.1)] at hI
      refine ⟨_, _, false, hI, fun h => (by cases h), fun _ => ?_, fun h => (by cases h)⟩
      by_cases h3 : ((tx Y).size : Int) < 3
      · exact S true _ (.inr ⟨h3, rfl⟩) (J ())
      · refine S true _ (.inl ⟨h3, ?_⟩) (J ())
        rw [ByteArray.toList_eq, q_cut_list, tx_data, List.drop_zero]
        exact (bne_iff_ne.2 hp).symm
  · have h4 : Ev (fun k => spec_l1Cut.f k (tx L) 59) (tx L, (⟨#[]⟩ : ByteArray), false) := h4
    have hW : L.head? ≠ some 32 := by
      rcases hed with h | ⟨h, _⟩
      · rw [h]; simp
      · exact h
    obtain ⟨nm, n0, n1, n2, n3, n4⟩ := NM L hlen hW
    have k1 := token_spec nm (by omega)
    have k2 := token_impl nm (by omega)
    have hI : impl_choiceOf.f (tx L) = some (nm, 1000, tokenB nm) := by
      unfold impl_choiceOf.f
      rw [h5]
      simp only [Option.bind_some]
      rw [n3]
      simp only [Option.bind_some]
      rw [n4]
      simp only [Option.bind_some]
      rw [k2]
      rfl
    have G : ∀ r, Ev (fun k => (spec_l3Token.f k nm).bind fun t134 => (if t134 = true then (if 1000 < 0 then (some (([] : List ChT), false)) else (if g.length < 5864062014805 then (spec_ChoicesOf.l0 k (g ++ [(⟨nm, 1000⟩ : ChT)]) l (l.length : Int) (wrap64 ((i : Int) + 1))) else (none))) else (some (([] : List ChT), false)))) r → Ev (fun k => spec_ChoicesOf.l0 k g l (l.length : Int) (i : Int)) r := fun r hr => by
      refine Ev.step (fun k => rfl) ?_
      simp only [spec_ChoicesOf.l0]
      rw [hrd]
      exact Ev.pos (by omega) (Ev.pos (by omega) (Ev.pos (by omega) (Ev.bind h4 (Ev.bind n1 (Ev.bnd n2 (Ev.neg Bool.false_ne_true hr))))))
    refine ⟨nm, 1000, tokenB nm, hI, fun hk r hr => G _ (Ev.bind k1 ?_), fun hk => G _ (Ev.bind k1 ?_), fun _ => by decide⟩
    · rw [hk, wrap_succ hi (by omega)]
      exact Ev.pos rfl (Ev.neg (by decide) (Ev.pos (by omega) hr))
    · rw [hk]
      exact Ev.neg Bool.false_ne_true (Ev.now _)
end Go.Proofs.YtmnddfiidnemiaaGreatDoor.Q

/- A tag read: the reference and the program tell one. No condition. -/
import Derived.Test.YtmnddfiidnemiaaDoorF1
import Derived.Test.YtmnddfiidnemiaaDoorQTagB
import Derived.Test.YtmnddfiidnemiaaDoorQTx
namespace Go.Proofs.YtmnddfiidnemiaaDoor.Q
set_option linter.unusedVariables false
set_option linter.unusedSimpArgs false
open Go.RowKit Go.Proofs.YtmnddfiidnemiaaDoor.F Go.Proofs.YtmnddfiidnemiaaDoorHw Go.Proofs.YtmnddfiidnemiaaDoorPl Go.Proofs.YtmnddfiidnemiaaDoorW.PrintWords
theorem cut_list (s : ByteArray) (i j : Nat) : (s.extract i j).data.toList = (s.data.toList.drop i).take (j - i) := by
  simp [ByteArray.data_extract]
abbrev Nix : Bool × ByteArray × Bool := (false, (⟨#[]⟩ : ByteArray), false)
theorem inner_tx (c d : UInt8) (u : List UInt8) : (tx (c :: (u ++ [d]))).extract 1 (u.length + 1) = tx u := by
  apply ByteArray.ext
  apply Array.toList_inj.1
  rw [cut_list, tx_data]
  simp [tx]
theorem not_34 (c : UInt8) : (c.toNat : Int) = 34 ↔ c = 34 := by
  constructor
  · intro h
    exact UInt8.toNat_inj.1 (by have : (34 : UInt8).toNat = 34 := rfl; omega)
  · rintro rfl; rfl
theorem j2_bad (x : ByteArray) (n : Int) (w : Bool) (t : ByteArray) : Ev (fun k => spec_l7Read.j2 k x n true w t) Nix := by
  refine Ev.step (fun k => rfl) ?_
  simp only [spec_l7Read.j2]
  exact Ev.pos (by trivial) (Ev.now _)
/-- What the reference reads of a text in quotes. -/
theorem j1_list (X : List UInt8) (hX : X.length ≤ 1000000000) (w : Bool) (t : ByteArray) :
    ∃ r : Bool × ByteArray × Bool, Ev (fun k => spec_l7Read.j1 k (tx X) w t) r ∧ ((∃ U, X = 34 :: (U ++ [34]) ∧ goodTag (tx U) = true ∧ r = (w, tx U, true)) ∨ (r = Nix ∧ ∀ U, X = 34 :: (U ++ [34]) → goodTag (tx U) = false)) := by
  have short : X.length < 2 → ∃ r : Bool × ByteArray × Bool, Ev (fun k => spec_l7Read.j1 k (tx X) w t) r ∧ ((∃ U, X = 34 :: (U ++ [34]) ∧ goodTag (tx U) = true ∧ r = (w, tx U, true)) ∨ (r = Nix ∧ ∀ U, X = 34 :: (U ++ [34]) → goodTag (tx U) = false)) := by
    intro h
    refine ⟨Nix, ?_, .inr ⟨rfl, fun U e => ?_⟩⟩
    · refine Ev.step (fun k => rfl) ?_
      simp only [spec_l7Read.j1]
      rw [tx_size]
      exact Ev.pos (by omega) (j2_bad _ _ _ _)
    · rw [e] at h
      simp at h
      omega
  cases X with
  | nil => exact short (by decide)
  | cons c Y =>
    rcases List.eq_nil_or_concat Y with rfl | ⟨U, d, rfl⟩
    · exact short (by simp)
    · rw [List.concat_eq_append] at hX ⊢
      have hsz : (tx (c :: (U ++ [d]))).size = U.length + 2 := by rw [tx_size]; simp
      have hb0 := tx_head c (U ++ [d])
      have hb1 : bt (tx (c :: (U ++ [d]))) ((U.length + 1 : Nat) : Int) = (d.toNat : Int) := by
        have := tx_last (c :: U) d
        rw [List.cons_append, List.length_cons] at this
        exact this
      have hlen : U.length + 2 ≤ 1000000000 := by simpa using hX
      have e1 : wrap64 (((U.length + 2 : Nat) : Int) - 1) = ((U.length + 1 : Nat) : Int) := by rw [wrap_id (by omega) (by omega)]; omega
      have S : ∀ b r, (c = 34 ∧ b = ((d.toNat : Int) != 34) ∨ c ≠ 34 ∧ b = true) → Ev (fun k => spec_l7Read.j2 k (tx (c :: (U ++ [d]))) ((U.length + 2 : Nat) : Int) b w t) r → Ev (fun k => spec_l7Read.j1 k (tx (c :: (U ++ [d]))) w t) r := fun b r hb hr => by
        refine Ev.step (fun k => rfl) ?_
        simp only [spec_l7Read.j1]
        rw [hsz, hb0, e1, hb1]
        refine Ev.neg (by omega) (Ev.pos (by omega) ?_)
        rcases hb with ⟨h1, rfl⟩ | ⟨h1, rfl⟩
        · exact Ev.pos ((not_34 c).2 h1) (Ev.pos (by omega) (Ev.pos (by omega) hr))
        · exact Ev.neg (fun h => h1 ((not_34 c).1 h)) hr
      have bad : (c ≠ 34 ∨ d ≠ 34) → ∃ r : Bool × ByteArray × Bool, Ev (fun k => spec_l7Read.j1 k (tx (c :: (U ++ [d]))) w t) r ∧ ((∃ V, c :: (U ++ [d]) = 34 :: (V ++ [34]) ∧ goodTag (tx V) = true ∧ r = (w, tx V, true)) ∨ (r = Nix ∧ ∀ V, c :: (U ++ [d]) = 34 :: (V ++ [34]) → goodTag (tx V) = false)) := by
        intro h
        refine ⟨Nix, ?_, .inr ⟨rfl, fun V e => ?_⟩⟩
        · by_cases h1 : c = 34
          · have h2 : d ≠ 34 := by rcases h with h | h; exact absurd h1 h; exact h
            refine S true _ (.inl ⟨h1, ?_⟩) (j2_bad _ _ _ _)
            exact (bne_iff_ne.2 (fun e => h2 ((not_34 d).1 e))).symm
          · exact S true _ (.inr ⟨h1, rfl⟩) (j2_bad _ _ _ _)
        · obtain ⟨e1, e2⟩ := List.cons.inj e
          obtain ⟨_, e3⟩ := List.append_inj' e2 rfl
          rcases h with h | h
          · exact absurd e1 h
          · exact absurd (List.cons.inj e3).1 h
      by_cases hc : c = 34
      · by_cases hd : d = 34
        · subst hc
          subst hd
          have G := tag_spec w (tx U) (by rw [tx_size]; omega)
          have inn := inner_tx 34 34 U
          cases hg : goodTag (tx U) with
          | true =>
            rw [hg] at G
            refine ⟨(w, tx U, true), S false _ (.inl ⟨rfl, by decide⟩) (Ev.step (fun k => rfl) ?_), .inl ⟨U, rfl, hg, rfl⟩⟩
            simp only [spec_l7Read.j2]
            rw [e1, Int.toNat_natCast, inn]
            exact Ev.neg (by decide) (Ev.pos (by omega) (Ev.pos (by rw [hsz]; omega) (Ev.bind G (Ev.pos rfl (Ev.now _)))))
          | false =>
            rw [hg] at G
            refine ⟨Nix, S false _ (.inl ⟨rfl, by decide⟩) (Ev.step (fun k => rfl) ?_), .inr ⟨rfl, fun V e => ?_⟩⟩
            · simp only [spec_l7Read.j2]
              rw [e1, Int.toNat_natCast, inn]
              exact Ev.neg (by decide) (Ev.pos (by omega) (Ev.pos (by rw [hsz]; omega) (Ev.bind G (Ev.neg Bool.false_ne_true (Ev.now _)))))
            · obtain ⟨_, e2⟩ := List.cons.inj e
              obtain ⟨e3, _⟩ := List.append_inj' e2 rfl
              rw [← e3]; exact hg
        · exact bad (.inr hd)
      · exact bad (.inl hc)
/-- Nothing good has a quote in it. -/
theorem good_trim (U : List UInt8) (h : goodTag (tx U) = true) : Lib.trimB (34 :: (U ++ [34])) 34 = U := by
  have hno : ∀ c ∈ U, c ≠ 34 := fun c hc e => by
    unfold goodTag at h
    rw [Bool.and_eq_true] at h
    have hm : (34 : Int) ∈ numsOf (tx U) := by
      unfold numsOf
      rw [tx_data]
      exact List.mem_map.2 ⟨c, hc, by rw [e]; rfl⟩
    have := List.all_eq_true.1 h.2 34 hm
    revert this
    decide
  have e1 : Lib.trimB (U ++ [34]) 34 = Lib.trimB U 34 := by
    unfold Lib.trimB
    rw [trimR_snoc]
  rw [trimB_cons, e1, trimB_same]
  cases U with
  | nil => exact .inl rfl
  | cons c r =>
    right
    refine ⟨fun e => hno c List.mem_cons_self (Option.some.inj e), fun e => ?_⟩
    exact hno 34 (List.mem_of_getLast? e) rfl
/-- What the program reads behind the weak mark. -/
theorem impl_list (P X : List UInt8) (w : Bool) (hw : P = if w = true then [87, 47] else []) (hX : X.length ≤ 1000000000) (s : ByteArray) (hs : s = tx (P ++ X)) (hc : strings_CutPrefix.f s (⟨#[87, 47]⟩ : ByteArray) = some (tx X, w)) :
    impl_ReadTag.f s = some (if goodTag (tx (Lib.trimB X 34)) = true ∧ 34 :: (Lib.trimB X 34 ++ [34]) = X then (w, tx (Lib.trimB X 34), true) else Nix) := by
  have hT : strings_Trim.f (tx X) (⟨#[34]⟩ : ByteArray) = some (tx (Lib.trimB X 34)) := by
    unfold strings_Trim.f
    rw [if_pos ⟨by rw [tx_size]; omega, rfl, by decide⟩, tx_data]
    rfl
  have hTl : (Lib.trimB X 34).length ≤ X.length := trimB_len X 34
  generalize Lib.trimB X 34 = T at hT hTl ⊢
  have hG := tag_impl w (tx T) (by rw [tx_size]; omega)
  have hA : ((⟨#[34]⟩ : ByteArray) ++ tx T) ++ (⟨#[34]⟩ : ByteArray) = tx (34 :: (T ++ [34])) := by
    apply ByteArray.ext
    simp [tx, ByteArray.data_append]
  have hsz1 : ((⟨#[34]⟩ : ByteArray) ++ tx T).size = T.length + 1 := by rw [ByteArray.size_append, tx_size]; show 1 + _ = _; omega
  have hsz2 : (tx (34 :: (T ++ [34]))).size = T.length + 2 := by rw [tx_size]; simp
  have hTx : impl_tagText.f w (tx T) = some (tx (P ++ (34 :: (T ++ [34])))) := by
    unfold impl_tagText.f
    rw [if_pos (by rw [tx_size]; omega), if_pos (by omega), hA]
    cases w with
    | true =>
      rw [if_pos rfl, if_pos (by omega), hw, if_pos rfl]
      refine congrArg some (ByteArray.ext ?_)
      simp [tx, ByteArray.data_append]
    | false =>
      rw [if_neg Bool.false_ne_true, hw, if_neg Bool.false_ne_true, List.nil_append]
  unfold impl_ReadTag.f
  rw [hc]
  simp only [Option.bind_some]
  rw [hT]
  simp only [Option.bind_some]
  rw [hG]
  simp only [Option.bind_some]
  cases hg : goodTag (tx T) with
  | false => rw [if_neg Bool.false_ne_true, if_neg (fun h => Bool.false_ne_true h.1)]
  | true =>
    rw [if_pos rfl, hTx]
    simp only [Option.bind_some]
    rw [hs, ByteArray.toList_eq, ByteArray.toList_eq, tx_data, tx_data]
    by_cases he : 34 :: (T ++ [34]) = X
    · rw [if_pos (by rw [he]), if_pos ⟨by trivial, he⟩]
    · rw [if_neg (fun h => he (List.append_cancel_left h)), if_neg (fun h => he h.2)]
/-- Both read alike. -/
theorem same_of {X : List UInt8} {w : Bool} {r : Bool × ByteArray × Bool} (h : (∃ U, X = 34 :: (U ++ [34]) ∧ goodTag (tx U) = true ∧ r = (w, tx U, true)) ∨ (r = Nix ∧ ∀ U, X = 34 :: (U ++ [34]) → goodTag (tx U) = false)) :
    (if goodTag (tx (Lib.trimB X 34)) = true ∧ 34 :: (Lib.trimB X 34 ++ [34]) = X then (w, tx (Lib.trimB X 34), true) else Nix) = r := by
  rcases h with ⟨U, rfl, hg, rfl⟩ | ⟨rfl, h⟩
  · have e := good_trim U hg
    rw [e, if_pos ⟨hg, rfl⟩]
  · exact if_neg (fun hh => by
      have := h _ hh.2.symm
      rw [hh.1] at this
      cases this)
theorem cut_true (X : List UInt8) : strings_CutPrefix.f (tx ([87, 47] ++ X)) (⟨#[87, 47]⟩ : ByteArray) = some (tx X, true) := by
  have hsz : (tx ([87, 47] ++ X)).size = X.length + 2 := by rw [tx_size]; simp
  have hp : (((⟨#[87, 47]⟩ : ByteArray).size : Nat) : Int) = 2 := rfl
  have h1 : ((tx ([87, 47] ++ X)).extract 0 2).toList = (⟨#[87, 47]⟩ : ByteArray).toList := by
    rw [ByteArray.toList_eq, ByteArray.toList_eq, cut_list, tx_data]
    rfl
  have h2 : (tx ([87, 47] ++ X)).extract 2 (tx ([87, 47] ++ X)).size = tx X := by
    apply ByteArray.ext
    apply Array.toList_inj.1
    rw [cut_list, tx_data, hsz]
    simp [tx]
  unfold strings_CutPrefix.f stringslite_CutPrefix.f stringslite_HasPrefix.f
  rw [hp, hsz, if_pos (by omega), if_pos (by omega), if_pos (by omega), show ((2 : Int)).toNat = 2 from rfl, h1, beq_self_eq_true]
  simp only [Option.bind_some, if_true]
  rw [← hsz, h2, if_pos (by omega), if_pos (by rw [hsz]; omega)]
  rfl
theorem cut_false (L : List UInt8) (h : L.take 2 ≠ [87, 47]) : strings_CutPrefix.f (tx L) (⟨#[87, 47]⟩ : ByteArray) = some (tx L, false) := by
  have hp : (((⟨#[87, 47]⟩ : ByteArray).size : Nat) : Int) = 2 := rfl
  have h1 : ((tx L).extract 0 2).toList ≠ (⟨#[87, 47]⟩ : ByteArray).toList := by
    rw [ByteArray.toList_eq, ByteArray.toList_eq, cut_list, tx_data, List.drop_zero]
    exact h
  have H : stringslite_HasPrefix.f (tx L) (⟨#[87, 47]⟩ : ByteArray) = some false := by
    unfold stringslite_HasPrefix.f
    rw [hp]
    by_cases h2 : ((tx L).size : Int) ≥ 2
    · rw [if_pos h2, if_pos (by omega), if_pos (by omega), show ((2 : Int)).toNat = 2 from rfl, beq_eq_false_iff_ne.2 h1]
    · rw [if_neg h2]
  unfold strings_CutPrefix.f stringslite_CutPrefix.f
  rw [H]
  rfl
/-- Both read one tag. -/
theorem read_both (s : ByteArray) (hs : s.size ≤ 100000000) : ∃ r : Bool × ByteArray × Bool, Ev (fun k => spec_l7Read.f k s) r ∧ impl_ReadTag.f s = some r := by
  obtain ⟨L, rfl⟩ : ∃ L, s = tx L := ⟨s.data.toList, (tx_of s).symm⟩
  rw [tx_size] at hs
  have J : ∀ r, Ev (fun k => spec_l7Read.j1 k (tx L) false (⟨#[]⟩ : ByteArray)) r → Ev (fun k => spec_l7Read.j0 k (tx L) false false (⟨#[]⟩ : ByteArray)) r := fun r hr => by
    refine Ev.step (fun k => rfl) ?_
    simp only [spec_l7Read.j0]
    exact Ev.neg (by decide) hr
  by_cases hp : L.take 2 = [87, 47]
  · obtain ⟨X, rfl⟩ : ∃ X, L = [87, 47] ++ X := ⟨L.drop 2, by rw [← hp]; exact (List.take_append_drop 2 L).symm⟩
    have hsz : (tx ([87, 47] ++ X)).size = X.length + 2 := by rw [tx_size]; simp
    have hX : X.length ≤ 1000000000 := by rw [List.length_append] at hs; omega
    have hI := impl_list [87, 47] X true rfl hX _ rfl (cut_true X)
    by_cases h0 : X = []
    · subst h0
      obtain ⟨r, r1, r2⟩ := j1_list ([87, 47] ++ []) (by decide) false (⟨#[]⟩ : ByteArray)
      have e : r = Nix := by
        rcases r2 with ⟨U, hU, _⟩ | ⟨h, _⟩
        · have := (List.cons.inj hU).1
          exact absurd this (by decide)
        · exact h
      refine ⟨r, ?_, hI.trans ?_⟩
      · unfold spec_l7Read.f
        exact Ev.neg (by rw [hsz]; decide) (J _ r1)
      · rw [e, if_neg (fun h => by have := h.2; cases this)]
    · have hl : 0 < X.length := List.length_pos_iff.2 h0
      obtain ⟨r, r1, r2⟩ := j1_list X hX true (⟨#[]⟩ : ByteArray)
      have hx2 : (tx ([87, 47] ++ X)).extract 2 (tx ([87, 47] ++ X)).size = tx X := by
        apply ByteArray.ext
        apply Array.toList_inj.1
        rw [cut_list, tx_data, hsz]
        simp [tx]
      have hpre : (((tx ([87, 47] ++ X)).extract 0 2).toList == ([87, 47] : List UInt8)) = true := by
        rw [ByteArray.toList_eq, cut_list, tx_data]
        rfl
      refine ⟨r, ?_, hI.trans (congrArg some (same_of r2))⟩
      unfold spec_l7Read.f
      refine Ev.pos (by rw [hsz]; omega) (Ev.pos (by decide) (Ev.pos (by rw [hsz]; omega) ?_))
      rw [hpre]
      refine Ev.step (fun k => rfl) ?_
      simp only [spec_l7Read.j0]
      rw [hx2]
      exact Ev.pos (by trivial) (Ev.pos (by rw [hsz]; omega) r1)
  · obtain ⟨r, r1, r2⟩ := j1_list L (by omega) false (⟨#[]⟩ : ByteArray)
    have hI := impl_list [] L false rfl (by omega) (tx L) rfl (cut_false L hp)
    refine ⟨r, ?_, hI.trans (congrArg some (same_of r2))⟩
    unfold spec_l7Read.f
    by_cases h2 : ((tx L).size : Int) > 2
    · have hpre : (((tx L).extract 0 2).toList == ([87, 47] : List UInt8)) = false := by
        rw [ByteArray.toList_eq, cut_list, tx_data, List.drop_zero]
        exact beq_eq_false_iff_ne.2 hp
      refine Ev.pos h2 (Ev.pos (by decide) (Ev.pos (by omega) ?_))
      rw [hpre]
      exact J _ r1
    · exact Ev.neg h2 (J _ r1)
end Go.Proofs.YtmnddfiidnemiaaDoor.Q

/- The pure statement of FnExactReadUrl: addresses are read alike. No condition. -/
import Derived.Test.YtehflacblgliiaaDoorF4
import Derived.Test.YtehflacblgliiaaDoorQReadTo
namespace Go.Proofs.YtehflacblgliiaaDoor.Q
set_option linter.unusedVariables false
set_option linter.unusedSimpArgs false
open Go.RowKit Go.Proofs.YtehflacblgliiaaDoor.F Go.Proofs.YtehflacblgliiaaDoorHw Go.Proofs.YtehflacblgliiaaDoorPl Go.Proofs.YtehflacblgliiaaDoorW.PrintWords
abbrev Sep3 : ByteArray := ⟨#[58, 47, 47]⟩
abbrev HttpA : ByteArray := ⟨#[104, 116, 116, 112]⟩
abbrev HttpsA : ByteArray := ⟨#[104, 116, 116, 112, 115]⟩
theorem ba_of_list {s t : ByteArray} (h : s.data.toList = t.data.toList) : s = t := by
  cases s; cases t; simp only [ByteArray.mk.injEq]; exact Array.toList_inj.1 h
theorem extract_list (s : ByteArray) (i j : Nat) : (s.extract i j).data.toList = (s.data.toList.drop i).take (j - i) := by
  simp [ByteArray.data_extract]
/-- Where a text begins with a scheme and the three signs, there the signs stand first. -/
theorem index_at (s a : ByteArray) (h : (s.data.toList.take (a.size + 3)) = a.data.toList ++ [58, 47, 47]) (ha : (58 : UInt8) ∉ a.data.toList) : Lib.indexB s Sep3 = (a.size : Int) := by
  show Lib.index s.data.toList [58, 47, 47] = _
  have hal : a.data.toList.length = a.size := Array.length_toList
  have hlen := congrArg List.length h
  rw [List.length_take, List.length_append, hal] at hlen
  have h3 : ([58, 47, 47] : List UInt8).length = 3 := rfl
  rw [h3] at hlen
  have hsl : a.size + 3 ≤ s.data.toList.length := by omega
  have hs : s.data.toList = (a.data.toList ++ [58, 47, 47]) ++ s.data.toList.drop (a.size + 3) := by rw [← h, List.take_append_drop]
  refine Lib.index_first (by omega) ?_ (fun j hj => ?_)
  · unfold Lib.occAt
    rw [List.isPrefixOf_iff_prefix, hs, List.append_assoc, List.drop_append_of_le_length (by omega), List.drop_eq_nil_of_le (by omega), List.nil_append]
    exact List.prefix_append _ _
  · cases ho : Lib.occAt s.data.toList [58, 47, 47] j with
    | false => rfl
    | true =>
      exfalso
      have h0 := Lib.occAt_head rfl ho
      rw [hs, List.append_assoc, List.getElem?_append_left (by omega)] at h0
      exact ha (List.mem_of_getElem? h0)
theorem rd_http : rdOf ByteArray.empty [HttpA, HttpsA] 0 = HttpA := rfl
theorem rd_https : rdOf ByteArray.empty [HttpA, HttpsA] 1 = HttpsA := rfl
/-- One scheme tried. -/
theorem try_scheme (s a : ByteArray) (x y : Int) (hx : 0 ≤ x) (hx2 : x < 2) (hrd : rdOf ByteArray.empty [HttpA, HttpsA] x = a) (hy : wrap64 (x + 1) = y) (ha : a.size ≤ 5) (hs : s.size ≤ 1048576) (R : UrlR)
    (h1 : a.size + 3 < s.size → (s.data.toList.take (a.size + 3)) = a.data.toList ++ [58, 47, 47] → Ev (fun k => spec_l1Authority.f k a (s.extract (a.size + 3) s.size)) R)
    (h2 : ¬ (a.size + 3 < s.size ∧ (s.data.toList.take (a.size + 3)) = a.data.toList ++ [58, 47, 47]) → Ev (fun k => spec_l1Read.l0 k s [HttpA, HttpsA] 2 y) R) :
    Ev (fun k => spec_l1Read.l0 k s [HttpA, HttpsA] 2 x) R := by
  have hw : wrap64 ((a.size : Int) + 3) = ((a.size + 3 : Nat) : Int) := by rw [wrap_id (by omega) (by omega)]; omega
  refine Ev.step (fun k => rfl) ?_
  simp only [spec_l1Read.l0]
  rw [hrd, hw, hy]
  have hl2 : ([HttpA, HttpsA] : List ByteArray).length = 2 := rfl
  refine Ev.pos hx2 (Ev.pos hx (Ev.pos (by rw [hl2]; omega) ?_))
  by_cases c1 : (s.size : Int) > ((a.size + 3 : Nat) : Int)
  · refine Ev.pos c1 (Ev.pos (by omega) (Ev.pos (by omega) (Ev.pos (by omega) ?_)))
    simp only [Int.toNat_natCast]
    have hiff : (s.extract 0 (a.size + 3)).toList = (a ++ (⟨#[58, 47, 47]⟩ : ByteArray)).toList ↔ (s.data.toList.take (a.size + 3)) = a.data.toList ++ [58, 47, 47] := by
      rw [ByteArray.toList_eq, ByteArray.toList_eq, extract_list, List.drop_zero, Nat.sub_zero]
      simp [ByteArray.data_append]
    by_cases c2 : (s.extract 0 (a.size + 3)).toList = (a ++ (⟨#[58, 47, 47]⟩ : ByteArray)).toList
    · exact Ev.pos c2 (Ev.bind (h1 (by omega) (hiff.1 c2)) (Ev.now _))
    · exact Ev.neg c2 (h2 (fun h => c2 (hiff.2 h.2)))
  · exact Ev.neg c1 (h2 (fun h => c1 (by omega)))
theorem read_eq (s : ByteArray) (hs : s.size ≤ 1048576) : ∃ R : UrlR, Ev (fun k => spec_ReadUrl.f k s) R ∧ Ev (fun k => impl_ReadUrl.f k s) R := by
  have J1 : ∀ a b : ByteArray, Ev (fun k => impl_ReadUrl.j0 k a b true (⟨#[]⟩ : ByteArray) (⟨#[]⟩ : ByteArray) 0 (⟨#[]⟩ : ByteArray) (⟨#[]⟩ : ByteArray) false) NoUrl := fun a b => by
    refine Ev.step (fun k => rfl) ?_
    simp only [impl_ReadUrl.j0]
    exact Ev.pos (by trivial) (Ev.now _)
  unfold spec_ReadUrl.f impl_ReadUrl.f spec_l1Read.f
  obtain ⟨a, b, o, hcut⟩ : ∃ (a b : ByteArray) (o : Bool), strings_Cut.f s (⟨#[58, 47, 47]⟩ : ByteArray) = some (a, b, o) := by
    unfold strings_Cut.f
    rw [if_pos (by omega)]
    exact ⟨_, _, _, rfl⟩
  by_cases hbig : (s.size : Int) > 200
  · refine ⟨NoUrl, Ev.bind (Ev.pos hbig (Ev.now _)) (Ev.now _), Ev.bnd hcut ?_⟩
    cases o with
    | true => rw [decide_eq_true hbig]; exact Ev.pos rfl (J1 a b)
    | false => exact Ev.neg Bool.false_ne_true (J1 a b)
  · have n1 : (58 : UInt8) ∉ HttpA.data.toList := by decide
    have n2 : (58 : UInt8) ∉ HttpsA.data.toList := by decide
    have z1 : HttpA.size = 4 := rfl
    have z2 : HttpsA.size = 5 := rfl
    have LAST : Ev (fun k => spec_l1Read.l0 k s [HttpA, HttpsA] 2 2) NoUrl := by
      refine Ev.step (fun k => rfl) ?_
      simp only [spec_l1Read.l0]
      exact Ev.neg (by decide) (Ev.now _)
    have T0 := fun R => try_scheme s HttpA 0 1 (by omega) (by omega) rd_http (by unfold wrap64; omega) (by omega) hs R
    have T1 := fun R => try_scheme s HttpsA 1 2 (by omega) (by omega) rd_https (by unfold wrap64; omega) (by omega) hs R
    have SP : ∀ R, Ev (fun k => spec_l1Read.l0 k s [HttpA, HttpsA] 2 0) R → Ev (fun k => (if (s.size : Int) > 200 then (some NoUrl) else ((some (([HttpA, HttpsA] : List ByteArray) : List ByteArray)).bind fun y254 => (spec_l1Read.l0 k s y254 (y254.length : Int) 0))).bind fun bt266 => (some (bt266.1, bt266.2.1, bt266.2.2.1, bt266.2.2.2.1, bt266.2.2.2.2.1, bt266.2.2.2.2.2.1, bt266.2.2.2.2.2.2))) R := fun R hR =>
      Ev.bind (Ev.neg hbig (Ev.bnd rfl hR)) (Ev.now _)
    rcases Lib.indexB_cases s Sep3 with hm | ⟨i, hi, hroom⟩
    · have hc := cut_miss1 s Sep3 hs hm
      rw [hc] at hcut
      simp only [Option.some.injEq, Prod.mk.injEq] at hcut
      obtain ⟨rfl, rfl, rfl⟩ := hcut
      refine ⟨NoUrl, SP _ (T0 NoUrl (fun _ h => ?_) (fun _ => T1 NoUrl (fun _ h => ?_) (fun _ => LAST))), Ev.bnd hc (Ev.neg Bool.false_ne_true (J1 _ _))⟩
      · have := index_at s HttpA h n1; omega
      · have := index_at s HttpsA h n2; omega
    · have hc : strings_Cut.f s (⟨#[58, 47, 47]⟩ : ByteArray) = some (s.extract 0 i, s.extract (i + 3) s.size, true) := by
        unfold strings_Cut.f
        obtain ⟨h1, h2, h3⟩ := Lib.cutB_hit s Sep3 i hi
        rw [if_pos (by omega), h1, h2, h3]
        rfl
      have z3 : Sep3.size = 3 := rfl
      have zb : (s.extract (i + 3) s.size).size = s.size - (i + 3) := extract_size s _ _ (Nat.le_refl _)
      have za : (s.extract 0 i).size = i := by rw [extract_size s 0 i (by omega)]; omega
      have IM : ∀ R, Ev (fun k => impl_ReadUrl.j0 k (s.extract 0 i) (s.extract (i + 3) s.size) false (⟨#[]⟩ : ByteArray) (⟨#[]⟩ : ByteArray) 0 (⟨#[]⟩ : ByteArray) (⟨#[]⟩ : ByteArray) false) R →
          Ev (fun k => (strings_Cut.f s (⟨#[58, 47, 47]⟩ : ByteArray)).bind fun bt275 => (if bt275.2.2 = true then (impl_ReadUrl.j0 k bt275.1 bt275.2.1 (decide ((s.size : Int) > 200)) (⟨#[]⟩ : ByteArray) (⟨#[]⟩ : ByteArray) 0 (⟨#[]⟩ : ByteArray) (⟨#[]⟩ : ByteArray) false) else (impl_ReadUrl.j0 k bt275.1 bt275.2.1 true (⟨#[]⟩ : ByteArray) (⟨#[]⟩ : ByteArray) 0 (⟨#[]⟩ : ByteArray) (⟨#[]⟩ : ByteArray) false))) R := fun R hR => by
        rw [decide_eq_false hbig]
        exact Ev.bnd hc (Ev.pos rfl hR)
      obtain ⟨R, r1, r2, r3⟩ := rest_eq (s.extract 0 i) (s.extract (i + 3) s.size) (by omega) (by omega)
      have occ : (s.data.toList.drop i).take 3 = [58, 47, 47] := by
        rcases Lib.index_spec s.data.toList [58, 47, 47] with ⟨h, _⟩ | ⟨j, h1, _, h2, _⟩
        · have : Lib.indexB s Sep3 = -1 := h
          omega
        · have : Lib.indexB s Sep3 = j := h1
          obtain rfl : j = i := by omega
          unfold Lib.occAt at h2
          rw [List.isPrefixOf_iff_prefix] at h2
          obtain ⟨t, ht⟩ := h2
          rw [← ht]
          rfl
      -- a scheme that stands there
      have K : ∀ a : ByteArray, (s.extract 0 i).toList = a.data.toList → (s.data.toList.take (a.size + 3)) = a.data.toList ++ [58, 47, 47] ∧ a.size = i := fun a ha => by
        rw [ByteArray.toList_eq, extract_list, List.drop_zero, Nat.sub_zero] at ha
        have hai : a.size = i := by
          have := congrArg List.length ha
          rw [List.length_take] at this
          have e1 : a.data.toList.length = a.size := Array.length_toList
          have e2 : s.data.toList.length = s.size := Array.length_toList
          omega
        refine ⟨?_, hai⟩
        rw [hai, List.take_add, ha, occ]
      have B : ∀ a : ByteArray, (58 : UInt8) ∉ a.data.toList → (s.data.toList.take (a.size + 3)) = a.data.toList ++ [58, 47, 47] → s.extract 0 i = a ∧ a.size = i := fun a hn h => by
        have hai : a.size = i := by have := index_at s a h hn; omega
        refine ⟨ba_of_list ?_, hai⟩
        rw [extract_list, List.drop_zero, Nat.sub_zero, ← hai]
        have hal : a.data.toList.length = a.size := Array.length_toList
        have := congrArg (List.take a.size) h
        rw [List.take_take, Nat.min_eq_left (by omega)] at this
        exact this.trans (by rw [← hal]; exact List.take_left)
      by_cases t0 : HttpA.size + 3 < s.size ∧ (s.data.toList.take (HttpA.size + 3)) = HttpA.data.toList ++ [58, 47, 47]
      · obtain ⟨e1, e2⟩ := B HttpA n1 t0.2
        rw [e1] at r1
        exact ⟨R, SP R (T0 R (fun _ _ => by rw [e2]; exact r1) (fun h => absurd t0 h)), IM R r2⟩
      · by_cases t1 : HttpsA.size + 3 < s.size ∧ (s.data.toList.take (HttpsA.size + 3)) = HttpsA.data.toList ++ [58, 47, 47]
        · obtain ⟨e1, e2⟩ := B HttpsA n2 t1.2
          rw [e1] at r1
          exact ⟨R, SP R (T0 R (fun h1 h2 => absurd ⟨h1, h2⟩ t0) (fun _ => T1 R (fun _ _ => by rw [e2]; exact r1) (fun h => absurd t1 h))), IM R r2⟩
        · have hR : R = NoUrl := by
            rcases r3 with h | ⟨h, hpos⟩
            · exact h
            · exfalso
              rcases h with h | h
              · obtain ⟨k1, k2⟩ := K HttpA h
                exact t0 ⟨by omega, k1⟩
              · obtain ⟨k1, k2⟩ := K HttpsA h
                exact t1 ⟨by omega, k1⟩
          subst hR
          exact ⟨NoUrl, SP _ (T0 NoUrl (fun h1 h2 => absurd ⟨h1, h2⟩ t0) (fun _ => T1 NoUrl (fun h1 h2 => absurd ⟨h1, h2⟩ t1) (fun _ => LAST))), IM _ r2⟩
theorem eq_url (a b : ByteArray) (n : Int) (c d : ByteArray) (e : Bool) : laws_eqUrl.f a b n c d e a b n c d e = some true := by
  unfold laws_eqUrl.f
  rw [if_pos rfl, if_pos rfl, if_pos rfl, if_pos rfl, if_pos rfl, if_neg (by simp)]
end Go.Proofs.YtehflacblgliiaaDoor.Q
namespace Go.Proofs.YtehflacblgliiaaDoor.Pure
open Go.RowKit Go.Proofs.YtehflacblgliiaaDoor.F Go.Proofs.YtehflacblgliiaaDoor.Q Go.Proofs.YtehflacblgliiaaDoorHw Go.Proofs.YtehflacblgliiaaDoorPl Go.Proofs.YtehflacblgliiaaDoorW.PrintWords
theorem FnExactReadUrl : laws_FnExactReadUrl.Pure := by
  intro s hs
  apply Ev.rounds
  unfold laws_FnExactReadUrl.f
  by_cases h0 : (s.size : Int) > 1048576
  · exact Ev.pos h0 (Ev.now _)
  · obtain ⟨⟨a, b, n, c, d, e, o⟩, r1, r2⟩ := read_eq s (by omega)
    exact Ev.neg h0 (Ev.bind r1 (Ev.bind r2 (Ev.bnd (eq_url a b n c d e) (Ev.pos rfl (Ev.neg (by simp) (Ev.now _))))))
end Go.Proofs.YtehflacblgliiaaDoor.Pure

/- Good addresses: the reference and the program judge alike. No condition. -/
import Derived.Test.YtehflacblgliiaaDoorF1
import Derived.Test.YtehflacblgliiaaDoorF3
import Derived.Test.YtehflacblgliiaaDoorQUrl
namespace Go.Proofs.YtehflacblgliiaaDoor.Q
set_option linter.unusedVariables false
set_option linter.unusedSimpArgs false
open Go.RowKit Go.Proofs.YtehflacblgliiaaDoor.F Go.Proofs.YtehflacblgliiaaDoorHw Go.Proofs.YtehflacblgliiaaDoorPl Go.Proofs.YtehflacblgliiaaDoorW.PrintWords
theorem prefix_one (c : ByteArray) (hc : c.size ≤ 9223372036854775807) : strings_HasPrefix.f c (⟨#[47]⟩ : ByteArray) = some (decide (1 ≤ c.size) && decide (bt c 0 = 47)) := by
  unfold strings_HasPrefix.f stringslite_HasPrefix.f
  have z : (⟨#[47]⟩ : ByteArray).size = 1 := rfl
  simp only [z]
  by_cases h : 1 ≤ c.size
  · rw [if_pos (by omega), if_pos (by omega), if_pos (by omega)]
    have e := extract_one c 0 (by omega)
    obtain ⟨b, hb⟩ := bt_byte c ((0 : Nat) : Int)
    rw [hb] at e
    have hb0 : bt c 0 = (b.val : Int) := hb
    simp only [Option.bind_some]
    rw [show (((1 : Nat) : Int) : Int).toNat = 0 + 1 from rfl, e, hb0, decide_eq_true h, Bool.true_and]
    congr 1
    rw [Bool.eq_iff_iff, beq_iff_eq, decide_eq_true_iff, ByteArray.toList_eq, ByteArray.toList_eq]
    unfold strOfNums
    simp only [List.map_cons, List.map_nil, Int.toNat_natCast]
    have hb2 := b.isLt
    constructor
    · intro h
      have h1 : UInt8.ofNat b.val = 47 := by simpa using h
      have h2 := congrArg UInt8.toNat h1
      rw [UInt8.toNat_ofNat'] at h2
      have h3 : (47 : UInt8).toNat = 47 := rfl
      rw [h3] at h2
      omega
    · intro h
      have : b.val = 47 := by omega
      rw [this]
      rfl
  · rw [if_neg (by omega), decide_eq_false h]
    rfl
/-- Is it good? -/
theorem good_both (a b : ByteArray) (n : Int) (c d : ByteArray) (e : Bool) (ha : a.size ≤ 1048576) (hb : b.size ≤ 1048576) (hc : c.size ≤ 1048576) (hd : d.size ≤ 1048576) :
    ∃ g : Bool, Ev (fun k => spec_GoodUrl.f k a b n c d e) g ∧ Ev (fun k => impl_GoodUrl.f k a b n c d e) g ∧ (g = true → (0 ≤ n ∧ n ≤ 65535) ∧ (1 ≤ c.size ∧ c.size ≤ 200 ∧ bt c 0 = 47) ∧ d.size ≤ 200 ∧ (1 ≤ b.size ∧ b.size ≤ 60) ∧ (a.toList = ([104, 116, 116, 112] : List UInt8) ∨ a.toList = ([104, 116, 116, 112, 115] : List UInt8))) := by
  obtain ⟨P, p1, p2⟩ := chars_eq c ⟨#[47]⟩ (by omega) other1
  obtain ⟨Q, q1, q2⟩ := chars_eq d ⟨#[47, 63]⟩ (by omega) other2
  have HP := prefix_one c (by omega)
  obtain ⟨pb, hpb⟩ : ∃ pb : Bool, pb = (decide (0 ≤ n) && decide (n ≤ 65535)) := ⟨_, rfl⟩
  obtain ⟨w, hw⟩ : ∃ w : Bool, w = (decide (1 ≤ (b.size : Int)) && decide ((b.size : Int) ≤ 60)) := ⟨_, rfl⟩
  obtain ⟨sl, hsl⟩ : ∃ sl : Bool, sl = (decide (1 ≤ c.size) && decide (bt c 0 = 47)) := ⟨_, rfl⟩
  rw [← hsl] at HP
  have tail : ∃ Z : Bool, (pb = true → Ev (fun k => if e = true then ((spec_l1Text.f k a b n c d e).bind fun t => (some (decide ((t.size : Int) ≤ 200)))) else (if d.toList = ([] : List UInt8) then ((spec_l1Text.f k a b n c d e).bind fun t => (some (decide ((t.size : Int) ≤ 200)))) else (some false))) Z) ∧
      (pb = true → Ev (fun _ => if e = true then ((impl_urlText.f a b n c d e).bind fun t => (some (decide ((t.size : Int) ≤ 200)))) else (if d.toList = ([] : List UInt8) then ((impl_urlText.f a b n c d e).bind fun t => (some (decide ((t.size : Int) ≤ 200)))) else (some false))) Z) ∧ (pb = true → Z = true → c.size ≤ 200 ∧ d.size ≤ 200) := by
    by_cases hp : pb = true
    · rw [hpb, Bool.and_eq_true, decide_eq_true_iff, decide_eq_true_iff] at hp
      obtain ⟨t, t1, t2, t3, t4⟩ := text_both a b n c d e ha hb hp.1 (by omega) hc hd
      cases e with
      | true => exact ⟨decide ((t.size : Int) ≤ 200), fun _ => Ev.pos rfl (Ev.bind t1 (Ev.now _)), fun _ => Ev.pos rfl (Ev.bnd t2 (Ev.now _)), fun _ hz => by have := t4 rfl; rw [decide_eq_true_iff] at hz; omega⟩
      | false =>
        by_cases hq : d.toList = ([] : List UInt8)
        · refine ⟨decide ((t.size : Int) ≤ 200), fun _ => Ev.neg (by decide) (Ev.pos hq (Ev.bind t1 (Ev.now _))), fun _ => Ev.neg (by decide) (Ev.pos hq (Ev.bnd t2 (Ev.now _))), fun _ hz => ?_⟩
          rw [decide_eq_true_iff] at hz
          have hd0 : d.size = 0 := by
            rw [ByteArray.toList_eq] at hq
            have := congrArg List.length hq
            rw [Array.length_toList] at this
            exact this
          omega
        · exact ⟨false, fun _ => Ev.neg (by decide) (Ev.neg hq (Ev.now _)), fun _ => Ev.neg (by decide) (Ev.neg hq (Ev.now _)), fun _ hz => by cases hz⟩
    · exact ⟨false, fun h => absurd h hp, fun h => absurd h hp, fun h => absurd h hp⟩
  obtain ⟨Z, z1, z2, z3⟩ := tail
  have J0 : Ev (fun k => spec_GoodUrl.j0 k true a b n c d e) false := Ev.no (fun k => by simp only [spec_GoodUrl.j0]; rfl)
  have J1 : pb = true → Ev (fun k => spec_GoodUrl.j0 k false a b n c d e) (P && (Q && Z)) := fun hp => by
    refine Ev.step (fun k => rfl) ?_
    simp only [spec_GoodUrl.j0]
    exact Ev.neg (by decide) (Ev.andB p1 (fun _ => Ev.andB q1 (fun _ => z1 hp) (fun _ => Ev.now _)) (fun _ => Ev.now _))
  have MID : pb = true → Ev (fun k => if (c.size : Int) = 0 then (spec_GoodUrl.j0 k true a b n c d e) else (if 0 < (c.size : Int) then (spec_GoodUrl.j0 k ((bt c 0) != 47) a b n c d e) else (none))) (sl && (P && (Q && Z))) := fun hp => by
    by_cases h0 : (c.size : Int) = 0
    · have : sl = false := by rw [hsl, decide_eq_false (show ¬ 1 ≤ c.size by omega)]; rfl
      rw [this]
      exact Ev.pos h0 J0
    · refine Ev.neg h0 (Ev.pos (by omega) ?_)
      by_cases h1 : bt c 0 = 47
      · have : sl = true := by rw [hsl, decide_eq_true (show 1 ≤ c.size by omega), decide_eq_true h1]; rfl
        rw [this, show (bt c 0 != 47) = false from bne_eq_false_iff_eq.mpr h1]
        exact J1 hp
      · have : sl = false := by rw [hsl, decide_eq_false h1]; simp
        rw [this, show (bt c 0 != 47) = true from bne_iff_ne.mpr h1]
        exact J0
  rw [hpb] at MID z2
  have wb : (decide (1 ≤ (b.size : Int)) && decide ((b.size : Int) ≤ 60)) = w := hw.symm
  have pbb : (decide (0 ≤ n) && decide (n ≤ 65535)) = pb := hpb.symm
  have FIN : (w && ((numsOf b).all hostB && (pb && (sl && (P && (Q && Z)))))) = true → (a.toList = ([104, 116, 116, 112] : List UInt8) ∨ a.toList = ([104, 116, 116, 112, 115] : List UInt8)) → (0 ≤ n ∧ n ≤ 65535) ∧ (1 ≤ c.size ∧ c.size ≤ 200 ∧ bt c 0 = 47) ∧ d.size ≤ 200 ∧ (1 ≤ b.size ∧ b.size ≤ 60) ∧ (a.toList = ([104, 116, 116, 112] : List UInt8) ∨ a.toList = ([104, 116, 116, 112, 115] : List UInt8)) := fun hV hs => by
    simp only [Bool.and_eq_true] at hV
    obtain ⟨v1, v2, v3, v4, v5, v6, v7⟩ := hV
    have zz := z3 v3 v7
    rw [hw, Bool.and_eq_true, decide_eq_true_iff, decide_eq_true_iff] at v1
    rw [hpb, Bool.and_eq_true, decide_eq_true_iff, decide_eq_true_iff] at v3
    rw [hsl, Bool.and_eq_true, decide_eq_true_iff, decide_eq_true_iff] at v4
    exact ⟨v3, ⟨v4.1, zz.1, v4.2⟩, zz.2, ⟨by omega, by omega⟩, hs⟩
  have SPEC : Ev (fun k => ((spec_l1Host.f k b).bind fun t124 => (if t124 = true then ((spec_l1In.f n 0 65535).bind fun t125 => (if t125 = true then (if (c.size : Int) = 0 then (spec_GoodUrl.j0 k true a b n c d e) else (if 0 < (c.size : Int) then (spec_GoodUrl.j0 k ((bt c 0) != 47) a b n c d e) else (none))) else (spec_GoodUrl.j0 k true a b n c d e))) else (spec_GoodUrl.j0 k true a b n c d e)))) (w && ((numsOf b).all hostB && (pb && (sl && (P && (Q && Z)))))) := by
    refine Ev.eq (Ev.andB (host_spec b (by omega)) (fun _ => Ev.andB (Ev.some (in_eq n 0 65535)) (fun hp => MID hp) (fun _ => J0)) (fun _ => J0)) ?_
    rw [wb, pbb]
    cases (numsOf b).all hostB <;> cases w <;> cases pb <;> rfl
  unfold spec_GoodUrl.f impl_GoodUrl.f
  have IMP := Ev.andB (Ev.some (within_eq (b.size : Int) 1 60)) (fun _ => Ev.andB (Ev.some (host_impl b (by omega))) (fun _ => Ev.andB (Ev.some (within_eq n 0 65535)) (fun hp => Ev.andB (Ev.some HP) (fun _ => Ev.andB p2 (fun _ => Ev.andB q2 (fun _ => z2 hp) (fun _ => Ev.now false)) (fun _ => Ev.now false)) (fun _ => Ev.now false)) (fun _ => Ev.now false)) (fun _ => Ev.now false)) (fun _ => Ev.now false)
  rw [wb, pbb] at IMP
  by_cases h1 : a.toList = ([104, 116, 116, 112] : List UInt8)
  · exact ⟨_, Ev.pos h1 SPEC, Ev.pos h1 IMP, fun hV => FIN hV (.inl h1)⟩
  · by_cases h2 : a.toList = ([104, 116, 116, 112, 115] : List UInt8)
    · exact ⟨_, Ev.neg h1 (Ev.pos h2 SPEC), Ev.neg h1 (Ev.pos h2 IMP), fun hV => FIN hV (.inr h2)⟩
    · exact ⟨false, Ev.neg h1 (Ev.neg h2 J0), Ev.neg h1 (Ev.neg h2 (Ev.now _)), fun h => by cases h⟩
end Go.Proofs.YtehflacblgliiaaDoor.Q

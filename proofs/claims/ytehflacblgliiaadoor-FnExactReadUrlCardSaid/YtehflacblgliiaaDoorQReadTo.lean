/- Addresses read, joined. No condition. -/
import Derived.Test.YtehflacblgliiaaDoorF2
import Derived.Test.YtehflacblgliiaaDoorF3
import Derived.Test.YtehflacblgliiaaDoorQRead
namespace Go.Proofs.YtehflacblgliiaaDoor.Q
set_option linter.unusedVariables false
set_option linter.unusedSimpArgs false
open Go.RowKit Go.Proofs.YtehflacblgliiaaDoor.F Go.Proofs.YtehflacblgliiaaDoorHw Go.Proofs.YtehflacblgliiaaDoorPl Go.Proofs.YtehflacblgliiaaDoorW.PrintWords
abbrev UrlR : Type := ByteArray × ByteArray × Int × ByteArray × ByteArray × Bool × Bool
abbrev NoUrl : UrlR := ((⟨#[]⟩ : ByteArray), (⟨#[]⟩ : ByteArray), 0, (⟨#[]⟩ : ByteArray), (⟨#[]⟩ : ByteArray), false, false)
def Http (a : ByteArray) : Prop := a.toList = ([104, 116, 116, 112] : List UInt8) ∨ a.toList = ([104, 116, 116, 112, 115] : List UInt8)
/-- Behind the host, the port, the path and the query. -/
theorem tail_eq (a h : ByteArray) (n : Int) (p q : ByteArray) (e : Bool) (z1 : a.size ≤ 1048576) (z2 : h.size ≤ 1048576) (z3 : p.size ≤ 1048576) (z4 : q.size ≤ 1048576) :
    ∃ R : UrlR, Ev (fun k => (spec_GoodUrl.f k a h n p q e).bind fun t => (if t = true then (some (a, h, n, p, q, e, true)) else (some NoUrl))) R ∧ Ev (fun k => (impl_GoodUrl.f k a h n p q e).bind fun t => (if t = true then (some (a, h, n, p, q, e, true)) else (some NoUrl))) R ∧
      (R = NoUrl ∨ (Http a ∧ 1 ≤ h.size ∧ n ≤ 65535)) := by
  obtain ⟨g, g1, g2, g3⟩ := good_both a h n p q e z1 z2 z3 z4
  cases g with
  | false => exact ⟨_, Ev.bind g1 (Ev.neg (by decide) (Ev.now _)), Ev.bind g2 (Ev.neg (by decide) (Ev.now _)), .inl rfl⟩
  | true =>
    obtain ⟨⟨_, hn⟩, _, _, ⟨hh, _⟩, hs⟩ := g3 rfl
    exact ⟨_, Ev.bind g1 (Ev.pos rfl (Ev.now _)), Ev.bind g2 (Ev.pos rfl (Ev.now _)), .inr ⟨hs, hh, hn⟩⟩
theorem cut_hit1 (s : ByteArray) (c : UInt8) (i : Nat) (hs : s.size ≤ 1048576) (h : Lib.indexB s ⟨#[c]⟩ = i) : strings_Cut.f s (⟨#[c]⟩ : ByteArray) = some (s.extract 0 i, s.extract (i + 1) s.size, true) := by
  unfold strings_Cut.f
  obtain ⟨h1, h2, h3⟩ := Lib.cutB_hit s ⟨#[c]⟩ i h
  rw [if_pos (by omega), h1, h2, h3]
  rfl
theorem cut_miss1 (s : ByteArray) (x : ByteArray) (hs : s.size ≤ 1048576) (h : Lib.indexB s x = -1) : strings_Cut.f s x = some (s, (⟨#[]⟩ : ByteArray), false) := by
  unfold strings_Cut.f
  obtain ⟨h1, h2, h3⟩ := Lib.cutB_miss s x h
  rw [if_pos (by omega), h1, h2, h3]
  rfl
theorem ibyte (s : ByteArray) (c : Int) (b : UInt8) (hc : c.toNat.toUInt8 = b) : strings_IndexByte.f s c = some (Lib.indexByte s.data.toList b) := by
  unfold strings_IndexByte.f
  rw [hc]
/-- The part of an address behind its scheme. -/
theorem core_eq (a rest auth : ByteArray) (en : Nat) (p q : ByteArray) (e : Bool) (z1 : a.size ≤ 1048576) (z2 : rest.size ≤ 1048576) (z3 : p.size ≤ 1048576) (z4 : q.size ≤ 1048576) (hen : en ≤ rest.size) (hauth : rest.extract 0 en = auth)
    (hloop : ∀ j, j < en → bt rest (j : Int) ≠ 47 ∧ bt rest (j : Int) ≠ 63) (hstop : en < rest.size → bt rest (en : Int) = 47 ∨ bt rest (en : Int) = 63)
    (hcut : Ev (fun k => spec_l1Cut.f k (rest.extract en rest.size) 63) (p, q, e)) :
    ∃ R : UrlR, Ev (fun k => spec_l1Authority.f k a rest) R ∧ Ev (fun k => impl_ReadUrl.j1 k auth a (⟨#[]⟩ : ByteArray) 0 p q e) R ∧ (R = NoUrl ∨ (Http a ∧ 1 ≤ rest.size)) := by
  have hz : auth.size = en := by rw [← hauth, extract_size rest 0 en hen]; omega
  have SJ : ∀ R, Ev (fun k => spec_l1Authority.j1 k rest (en : Int) a (⟨#[]⟩ : ByteArray) 0 (⟨#[]⟩ : ByteArray) (⟨#[]⟩ : ByteArray) false) R → Ev (fun k => spec_l1Authority.f k a rest) R := fun R hR => by
    unfold spec_l1Authority.f
    refine find_loop (fun k x => spec_l1Authority.l0 k rest x a (⟨#[]⟩ : ByteArray) 0 (⟨#[]⟩ : ByteArray) (⟨#[]⟩ : ByteArray) false) en _ ?_ en 0 (by omega) ?_
    · refine Ev.step (fun k => rfl) ?_
      simp only [spec_l1Authority.l0]
      by_cases h : en < rest.size
      · refine Ev.pos (by omega) (Ev.pos (by omega) ?_)
        rcases hstop h with h1 | h1
        · exact Ev.pos h1 hR
        · exact Ev.neg (by omega) (Ev.pos h1 hR)
      · exact Ev.neg (by omega) hR
    · intro j _ hj k
      obtain ⟨h1, h2⟩ := hloop j hj
      show spec_l1Authority.l0 (k + 1) rest (j : Int) a _ 0 _ _ false = _
      simp only [spec_l1Authority.l0]
      rw [if_pos (by omega), if_pos (by omega), if_neg h1, if_neg h2, wrap_succ (i := j) (n := rest.size) (by omega) (by omega)]
  -- the path, not empty
  obtain ⟨P, hP⟩ : ∃ P : ByteArray, P = (if p.toList = ([] : List UInt8) then (⟨#[47]⟩ : ByteArray) else p) := ⟨_, rfl⟩
  have hPz : P.size ≤ 1048576 := by
    rw [hP]
    split
    · show (1 : Nat) ≤ _; omega
    · exact z3
  have S2 : ∀ (h : ByteArray) (n : Int) R, Ev (fun k => (spec_GoodUrl.f k a h n P q e).bind fun t => (if t = true then (some (a, h, n, P, q, e, true)) else (some NoUrl))) R → Ev (fun k => spec_l1Authority.j2 k rest (en : Int) a h n (⟨#[]⟩ : ByteArray) (⟨#[]⟩ : ByteArray) false) R := fun h n R hR => by
    refine Ev.step (fun k => rfl) ?_
    simp only [spec_l1Authority.j2, Int.toNat_natCast]
    refine Ev.pos (by omega) (Ev.pos (by omega) (Ev.bind hcut ?_))
    by_cases hp : p.toList = ([] : List UInt8)
    · rw [hP.trans (if_pos hp)] at hR
      exact Ev.pos hp hR
    · rw [hP.trans (if_neg hp)] at hR
      exact Ev.neg hp hR
  have I1 : ∀ R, Ev (fun k => impl_ReadUrl.j2 k auth a (⟨#[]⟩ : ByteArray) 0 P q e) R → Ev (fun k => impl_ReadUrl.j1 k auth a (⟨#[]⟩ : ByteArray) 0 p q e) R := fun R hR => by
    refine Ev.step (fun k => rfl) ?_
    simp only [impl_ReadUrl.j1]
    by_cases hp : p.toList = ([] : List UInt8)
    · rw [hP.trans (if_pos hp)] at hR
      exact Ev.pos hp hR
    · rw [hP.trans (if_neg hp)] at hR
      exact Ev.neg hp hR
  rcases first_place auth 58 with ⟨i, hi, h1, h2, h3, _⟩ | ⟨h2, h3, _⟩
  · have zh : (auth.extract 0 i).size = i := by rw [extract_size auth 0 i (by omega)]; omega
    have zp : (auth.extract (i + 1) auth.size).size ≤ 1048576 := by rw [extract_size auth _ _ (Nat.le_refl _)]; omega
    have hc1 := l1cut_hit auth 58 i (by omega) hi h1 (fun j hj => h2 j hj)
    have hc2 := cut_hit1 auth 58 i (by omega) h3
    obtain ⟨v, v1, v2⟩ := port_eq (auth.extract (i + 1) auth.size) zp
    have S1 : ∀ R, Ev (fun k => if v ≤ 0 then (some NoUrl) else (spec_l1Authority.j2 k rest (en : Int) a (auth.extract 0 i) v (⟨#[]⟩ : ByteArray) (⟨#[]⟩ : ByteArray) false)) R → Ev (fun k => spec_l1Authority.f k a rest) R := fun R hR => SJ R (by
      refine Ev.step (fun k => rfl) ?_
      simp only [spec_l1Authority.j1, Int.toNat_natCast]
      rw [hauth]
      exact Ev.pos (by omega) (Ev.pos (by omega) (Ev.bind hc1 (Ev.pos rfl (Ev.bind v1 hR)))))
    have I2 : ∀ (n : Int) (ok x : Bool) R, impl_number.f (auth.extract (i + 1) auth.size) = some (n, ok) → x = (!ok || (n == 0)) → Ev (fun k => impl_ReadUrl.j3 k n x a (auth.extract 0 i) 0 P q e) R → Ev (fun k => impl_ReadUrl.j1 k auth a (⟨#[]⟩ : ByteArray) 0 p q e) R := fun n ok x R hn hx hR => I1 R (by
      refine Ev.step (fun k => rfl) ?_
      simp only [impl_ReadUrl.j2]
      refine Ev.bnd hc2 (Ev.pos rfl (Ev.bnd hn ?_))
      subst hx
      cases ok with
      | true => exact Ev.pos rfl hR
      | false => exact Ev.neg Bool.false_ne_true hR)
    have N3 : ∀ (n : Int), Ev (fun k => impl_ReadUrl.j3 k n true a (auth.extract 0 i) 0 P q e) NoUrl := fun n => by
      refine Ev.step (fun k => rfl) ?_
      simp only [impl_ReadUrl.j3]
      exact Ev.pos (by trivial) (Ev.now _)
    have G3 : ∀ (n : Int) R, Ev (fun k => (impl_GoodUrl.f k a (auth.extract 0 i) n P q e).bind fun t => (if t = true then (some (a, auth.extract 0 i, n, P, q, e, true)) else (some NoUrl))) R → Ev (fun k => impl_ReadUrl.j3 k n false a (auth.extract 0 i) 0 P q e) R := fun n R hR => by
      refine Ev.step (fun k => rfl) ?_
      simp only [impl_ReadUrl.j3]
      exact Ev.neg (by decide) hR
    rcases v2 with ⟨p0, p9, hn⟩ | ⟨p0, n, ok, hn, hno⟩
    · obtain ⟨R, r1, r2, r3⟩ := tail_eq a (auth.extract 0 i) v P q e z1 (by omega) hPz z4
      refine ⟨R, S1 R (Ev.neg (by omega) (S2 _ _ _ r1)), I2 v true false R hn ?_ (G3 v R r2), ?_⟩
      · rw [show (v == 0) = false from beq_eq_false_iff_ne.mpr (by omega)]; rfl
      · rcases r3 with h | ⟨h, h', _⟩
        · exact .inl h
        · exact .inr ⟨h, by omega⟩
    · have s1 := S1 NoUrl (Ev.pos p0 (Ev.now _))
      cases ok with
      | false => exact ⟨NoUrl, s1, I2 n false true NoUrl hn rfl (N3 n), .inl rfl⟩
      | true =>
        rcases hno rfl with h0 | h0
        · subst h0
          exact ⟨NoUrl, s1, I2 0 true true NoUrl hn rfl (N3 0), .inl rfl⟩
        · obtain ⟨R, _, r2, r3⟩ := tail_eq a (auth.extract 0 i) n P q e z1 (by omega) hPz z4
          rcases r3 with h | ⟨_, _, h'⟩
          · subst h
            refine ⟨NoUrl, s1, I2 n true false NoUrl hn ?_ (G3 n _ r2), .inl rfl⟩
            rw [show (n == 0) = false from beq_eq_false_iff_ne.mpr (by omega)]; rfl
          · omega
  · have hc1 := l1cut_miss auth 58 (by omega) (fun j hj => h2 j hj)
    have hc2 := cut_miss1 auth ⟨#[58]⟩ (by omega) h3
    obtain ⟨R, r1, r2, r3⟩ := tail_eq a auth 0 P q e z1 (by omega) hPz z4
    refine ⟨R, SJ R ?_, I1 R ?_, ?_⟩
    · refine Ev.step (fun k => rfl) ?_
      simp only [spec_l1Authority.j1, Int.toNat_natCast]
      rw [hauth]
      exact Ev.pos (by omega) (Ev.pos (by omega) (Ev.bind hc1 (Ev.neg Bool.false_ne_true (S2 _ _ _ r1))))
    · refine Ev.step (fun k => rfl) ?_
      simp only [impl_ReadUrl.j2]
      exact Ev.bnd hc2 (Ev.neg Bool.false_ne_true r2)
    · rcases r3 with h | ⟨h, h', _⟩
      · exact .inl h
      · exact .inr ⟨h, by omega⟩
theorem bt_from (s : ByteArray) (t n : Nat) (h : t + n < s.size) : bt (s.extract t s.size) (n : Int) = bt s ((t + n : Nat) : Int) := bt_extract s t s.size n (by omega)
/-- The rest of an address, either way. -/
theorem rest_eq (a rest : ByteArray) (z1 : a.size ≤ 1048576) (z2 : rest.size ≤ 1048576) :
    ∃ R : UrlR, Ev (fun k => spec_l1Authority.f k a rest) R ∧ Ev (fun k => impl_ReadUrl.j0 k a rest false (⟨#[]⟩ : ByteArray) (⟨#[]⟩ : ByteArray) 0 (⟨#[]⟩ : ByteArray) (⟨#[]⟩ : ByteArray) false) R ∧ (R = NoUrl ∨ (Http a ∧ 1 ≤ rest.size)) := by
  have e63 : ((63 : UInt8).toNat : Int) = 63 := rfl
  have e47 : ((47 : UInt8).toNat : Int) = 47 := rfl
  have IB := fun (s : ByteArray) => ibyte s 47 47 rfl
  have J : ∀ (before q : ByteArray) (e : Bool) R, strings_Cut.f rest (⟨#[63]⟩ : ByteArray) = some (before, q, e) →
      (∀ t : Nat, Lib.indexByte before.data.toList 47 = t → t < before.size → Ev (fun k => impl_ReadUrl.j1 k (before.extract 0 t) a (⟨#[]⟩ : ByteArray) 0 (before.extract t before.size) q e) R) →
      (Lib.indexByte before.data.toList 47 = -1 → Ev (fun k => impl_ReadUrl.j1 k before a (⟨#[]⟩ : ByteArray) 0 (⟨#[]⟩ : ByteArray) q e) R) →
      Ev (fun k => impl_ReadUrl.j0 k a rest false (⟨#[]⟩ : ByteArray) (⟨#[]⟩ : ByteArray) 0 (⟨#[]⟩ : ByteArray) (⟨#[]⟩ : ByteArray) false) R := fun before q e R hc h1 h2 => by
    refine Ev.step (fun k => rfl) ?_
    simp only [impl_ReadUrl.j0]
    refine Ev.neg (by decide) (Ev.bnd hc (Ev.bnd (IB before) ?_))
    rcases first_place before 47 with ⟨t, ht, _, _, _, hb⟩ | ⟨_, _, hb⟩
    · rw [hb]
      simp only [Int.toNat_natCast]
      exact Ev.pos (by omega) (Ev.pos (by omega) (Ev.pos (by omega) (h1 t hb ht)))
    · rw [hb]
      exact Ev.neg (by decide) (h2 hb)
  rcases first_place rest 63 with ⟨j, hj, q1, q2, q3, _⟩ | ⟨q2, q3, _⟩
  · have hc := cut_hit1 rest 63 j (by omega) q3
    have zb : (rest.extract 0 j).size = j := by rw [extract_size rest 0 j (by omega)]; omega
    have zq : (rest.extract (j + 1) rest.size).size ≤ 1048576 := by rw [extract_size rest _ _ (Nat.le_refl _)]; omega
    have bb : ∀ n, n < j → bt (rest.extract 0 j) (n : Int) = bt rest (n : Int) := fun n hn => by
      have := bt_extract rest 0 j n (by omega)
      rw [Nat.zero_add] at this
      exact this
    rcases first_place (rest.extract 0 j) 47 with ⟨t, ht, s1, s2, _, s3⟩ | ⟨s2, _, s3⟩
    · rw [zb] at ht
      rw [bb t ht] at s1
      have hcut : Ev (fun k => spec_l1Cut.f k (rest.extract t rest.size) 63) ((rest.extract t rest.size).extract 0 (j - t), (rest.extract t rest.size).extract (j - t + 1) (rest.extract t rest.size).size, true) :=
        l1cut_hit _ 63 (j - t) (by rw [extract_size rest _ _ (Nat.le_refl _)]; omega) (by rw [extract_size rest _ _ (Nat.le_refl _)]; omega)
          (by rw [bt_from rest t (j - t) (by omega), show t + (j - t) = j by omega]; exact q1.trans e63)
          (fun m hm => by rw [bt_from rest t m (by omega)]; exact e63 ▸ q2 (t + m) (by omega))
      have x1 : (rest.extract t rest.size).extract 0 (j - t) = (rest.extract 0 j).extract t (rest.extract 0 j).size := by
        rw [zb, ByteArray.extract_extract, ByteArray.extract_extract]
        congr 1 <;> omega
      have x2 : (rest.extract t rest.size).extract (j - t + 1) (rest.extract t rest.size).size = rest.extract (j + 1) rest.size := by
        rw [extract_size rest _ _ (Nat.le_refl _), ByteArray.extract_extract]
        congr 1 <;> omega
      rw [x1, x2] at hcut
      obtain ⟨R, r1, r2, r3⟩ := core_eq a rest ((rest.extract 0 j).extract 0 t) t _ _ true z1 z2 (by rw [extract_size _ _ _ (Nat.le_refl _)]; omega) zq (by omega)
        (by rw [ByteArray.extract_extract]; congr 1; omega)
        (fun m hm => ⟨fun e => s2 m hm (by rw [bb m (by omega)]; exact e), fun e => q2 m (by omega) (e.trans e63.symm)⟩)
        (fun _ => .inl (s1.trans e47)) hcut
      refine ⟨R, r1, J _ _ _ R hc (fun t' ht' hlt => ?_) (fun h => by omega), r3⟩
      obtain rfl : t' = t := by omega
      exact r2
    · have hcut : Ev (fun k => spec_l1Cut.f k (rest.extract j rest.size) 63) ((rest.extract j rest.size).extract 0 0, (rest.extract j rest.size).extract (0 + 1) (rest.extract j rest.size).size, true) :=
        l1cut_hit _ 63 0 (by rw [extract_size rest _ _ (Nat.le_refl _)]; omega) (by rw [extract_size rest _ _ (Nat.le_refl _)]; omega)
          (by rw [bt_from rest j 0 (by omega)]; exact q1.trans e63) (fun m hm => by omega)
      have x1 : (rest.extract j rest.size).extract 0 0 = (⟨#[]⟩ : ByteArray) := by
        have : ((rest.extract j rest.size).extract 0 0).size = 0 := by rw [ByteArray.size_extract]; omega
        apply ByteArray.ext
        exact Array.eq_empty_of_size_eq_zero this
      have x2 : (rest.extract j rest.size).extract (0 + 1) (rest.extract j rest.size).size = rest.extract (j + 1) rest.size := by
        rw [extract_size rest _ _ (Nat.le_refl _), ByteArray.extract_extract]
        congr 1 <;> omega
      rw [x1, x2] at hcut
      obtain ⟨R, r1, r2, r3⟩ := core_eq a rest (rest.extract 0 j) j _ _ true z1 z2 (by show (0 : Nat) ≤ _; omega) zq (by omega) rfl
        (fun m hm => ⟨fun e => s2 m (by omega) (by rw [bb m hm]; exact e), fun e => q2 m hm (e.trans e63.symm)⟩)
        (fun _ => .inr (q1.trans e63)) hcut
      exact ⟨R, r1, J _ _ _ R hc (fun t' ht' hlt => by omega) (fun h => r2), r3⟩
  · have hc := cut_miss1 rest ⟨#[63]⟩ (by omega) q3
    have hmiss : ∀ t, t ≤ rest.size → Ev (fun k => spec_l1Cut.f k (rest.extract t rest.size) 63) (rest.extract t rest.size, (⟨#[]⟩ : ByteArray), false) := fun t ht => by
      have zt := extract_size rest t rest.size (Nat.le_refl _)
      exact l1cut_miss _ 63 (by omega) (fun m hm => by rw [bt_from rest t m (by omega)]; exact e63 ▸ q2 (t + m) (by omega))
    rcases first_place rest 47 with ⟨t, ht, s1, s2, _, s3⟩ | ⟨s2, _, s3⟩
    · obtain ⟨R, r1, r2, r3⟩ := core_eq a rest (rest.extract 0 t) t _ _ false z1 z2 (by rw [extract_size _ _ _ (Nat.le_refl _)]; omega) (by show (0 : Nat) ≤ _; omega) (by omega) rfl
        (fun m hm => ⟨fun e => s2 m hm (e.trans e47.symm), fun e => q2 m (by omega) (e.trans e63.symm)⟩) (fun _ => .inl (s1.trans e47)) (hmiss t (by omega))
      refine ⟨R, r1, J _ _ _ R hc (fun t' ht' hlt => ?_) (fun h => by omega), r3⟩
      obtain rfl : t' = t := by omega
      exact r2
    · have x0 : rest.extract rest.size rest.size = (⟨#[]⟩ : ByteArray) := by
        have : (rest.extract rest.size rest.size).size = 0 := by rw [ByteArray.size_extract]; omega
        apply ByteArray.ext
        exact Array.eq_empty_of_size_eq_zero this
      have xa : rest.extract 0 rest.size = rest := by
        apply ba_ext
        rw [numsOf_extract, List.drop_zero]
        exact List.take_of_length_le (by rw [numsOf_length]; omega)
      have hm := hmiss rest.size (Nat.le_refl _)
      have hm' : Ev (fun k => spec_l1Cut.f k (rest.extract rest.size rest.size) 63) ((⟨#[]⟩ : ByteArray), (⟨#[]⟩ : ByteArray), false) := Ev.eq hm (by rw [x0])
      obtain ⟨R, r1, r2, r3⟩ := core_eq a rest rest rest.size _ _ false z1 z2 (by show (0 : Nat) ≤ _; omega) (by show (0 : Nat) ≤ _; omega) (Nat.le_refl _) xa
        (fun m hm => ⟨fun e => s2 m hm (e.trans e47.symm), fun e => q2 m hm (e.trans e63.symm)⟩) (fun h => absurd h (Nat.lt_irrefl _)) hm'
      exact ⟨R, r1, J _ _ _ R hc (fun t' ht' hlt => by omega) (fun h => r2), r3⟩
end Go.Proofs.YtehflacblgliiaaDoor.Q

/- Addresses: whether they are good, and their texts: the reference and the program tell the same. No condition. -/
import Derived.Test.YtehflacblgliiaaDoorF1
import Derived.Test.YtehflacblgliiaaDoorF3
import Derived.Test.YtehflacblgliiaaDoorF2
import Derived.Test.YtehflacblgliiaaDoorQPercent
import Derived.Lib.ItoaLen
namespace Go.Proofs.YtehflacblgliiaaDoor.Q
set_option linter.unusedVariables false
set_option linter.unusedSimpArgs false
open Go.RowKit Go.Proofs.YtehflacblgliiaaDoor.F Go.Proofs.YtehflacblgliiaaDoorHw Go.Proofs.YtehflacblgliiaaDoorPl Go.Proofs.YtehflacblgliiaaDoorW.PrintWords
theorem Ev.andB {g f e : Nat → Option Bool} {b r : Bool} (h : Ev g b) (ht : b = true → Ev f r) (he : b = false → Ev e false) : Ev (fun k => (g k).bind fun t => if t = true then f k else e k) (b && r) := by
  refine Ev.bind h ?_
  cases b with
  | true => exact Ev.eq (Ev.pos rfl (ht rfl)) rfl
  | false => exact Ev.eq (Ev.neg Bool.false_ne_true (he rfl)) rfl
theorem Ev.no {g : Nat → Option Bool} (h : ∀ k, g (k + 1) = some false) : Ev g false := Ev.step h (Ev.now _)
def letterB (b : Int) : Bool := (decide (97 ≤ b) && decide (b ≤ 122)) || (decide (65 ≤ b) && decide (b ≤ 90))
def digitB (b : Int) : Bool := decide (48 ≤ b) && decide (b ≤ 57)
def hostB (b : Int) : Bool := letterB b || (digitB b || (b == 45 || b == 46))
set_option maxRecDepth 100000 in
theorem letter_byte : ∀ b : Fin 256, spec_l1Letter.f (b.val : Int) = some (letterB b.val) := by decide +kernel
set_option maxRecDepth 100000 in
theorem digit_byte : ∀ b : Fin 256, spec_l1Digit.f (b.val : Int) = some (digitB b.val) := by decide +kernel
set_option maxRecDepth 100000 in
theorem host_byte : ∀ b : Fin 256, impl_GoodUrl_1.f (b.val : Int) = some (hostB b.val) := by decide +kernel
theorem host_spec (s : ByteArray) (hs : s.size ≤ 9223372036854775807) : Ev (fun k => spec_l1Host.f k s) ((numsOf s).all hostB && (decide (1 ≤ (s.size : Int)) && decide ((s.size : Int) ≤ 60))) := by
  have h := loop_all s (fun k i => spec_l1Host.l0 k s i) hostB false (decide (1 ≤ (s.size : Int)) && decide ((s.size : Int) ≤ 60)) ?_ ?_ ?_ s.size 0 (by omega)
  · unfold spec_l1Host.f
    refine Ev.eq (g := fun k => spec_l1Host.l0 k s ((0 : Nat) : Int)) h ?_
    simp only [List.drop_zero]
    cases (numsOf s).all hostB <;> rfl
  · intro i hi hq k
    obtain ⟨b, hb⟩ := bt_byte s (i : Int)
    simp only [spec_l1Host.l0]
    rw [if_pos (by omega), if_pos (by omega), hb, letter_byte, digit_byte, wrap_succ hi hs]
    rw [hb] at hq
    unfold hostB at hq
    simp only [Option.bind_some]
    cases h1 : letterB (b.val : Int) with
    | true => rw [if_pos rfl]
    | false =>
      rw [if_neg (by decide)]
      cases h2 : digitB (b.val : Int) with
      | true => rw [if_pos rfl]
      | false =>
        rw [if_neg (by decide)]
        rw [h1, h2] at hq
        by_cases h3 : (b.val : Int) = 45
        · rw [if_pos h3]
        · rw [if_neg h3, if_pos (by simpa [h3] using hq)]
  · intro i hi hq k
    obtain ⟨b, hb⟩ := bt_byte s (i : Int)
    simp only [spec_l1Host.l0]
    rw [if_pos (by omega), if_pos (by omega), hb, letter_byte, digit_byte]
    rw [hb] at hq
    unfold hostB at hq
    simp only [Bool.or_eq_false_iff, beq_eq_false_iff_ne] at hq
    obtain ⟨h1, h2, h3, h4⟩ := hq
    simp only [Option.bind_some, h1, h2]
    rw [if_neg (by decide), if_neg (by decide), if_neg h3, if_neg h4]
  · intro k
    simp only [spec_l1Host.l0]
    rw [if_neg (by omega)]
    unfold spec_l1In.f
    by_cases h1 : (s.size : Int) ≥ 1
    · rw [if_pos h1, show decide (1 ≤ (s.size : Int)) = true from decide_eq_true h1]; rfl
    · rw [if_neg h1, show decide (1 ≤ (s.size : Int)) = false from decide_eq_false h1]; rfl
theorem host_impl (s : ByteArray) (hs : s.size ≤ 9223372036854775807) : impl_areBytes_37.f s () = some ((numsOf s).all hostB) := by
  unfold impl_areBytes_37.f
  rw [if_pos hs]
  refine allO_all (fun x hx => ?_)
  obtain ⟨b, rfl⟩ := numsOf_mem s x hx
  exact host_byte b
theorem within_eq (a b c : Int) : impl_within.f a b c = some (decide (b ≤ a) && decide (a ≤ c)) := by
  unfold impl_within.f
  by_cases h : b ≤ a
  · rw [if_pos h, decide_eq_true h]; rfl
  · rw [if_neg h, decide_eq_false h]; rfl
theorem in_eq (a b c : Int) : spec_l1In.f a b c = some (decide (b ≤ a) && decide (a ≤ c)) := by
  unfold spec_l1In.f
  by_cases h : a ≥ b
  · rw [if_pos h, decide_eq_true (show b ≤ a from h)]; rfl
  · rw [if_neg h, decide_eq_false (show ¬ b ≤ a from h)]; rfl
abbrev Sub13 : ByteArray := ⟨#[33, 36, 38, 39, 40, 41, 42, 43, 44, 59, 61, 58, 64]⟩
abbrev Sub17 : ByteArray := ⟨#[45, 46, 95, 126, 33, 36, 38, 39, 40, 41, 42, 43, 44, 59, 61, 58, 64]⟩
def OtherOk (o : ByteArray) : Prop := (∀ b : Fin 256, ((spec_l1Free.f (b.val : Int)).bind fun t1 => (spec_l1Has.f 20 Sub13 (b.val : Int)).bind fun t2 => (spec_l1Has.f 20 o (b.val : Int)).bind fun t3 => some (t1 || (t2 || t3))) = impl_isAmong.f (b.val : Int) (Sub17 ++ o)) ∧ impl_isAmong.f 37 (Sub17 ++ o) = some false ∧ o.size ≤ 2
set_option maxRecDepth 100000 in
theorem other1 : OtherOk ⟨#[47]⟩ := by unfold OtherOk; decide +kernel
set_option maxRecDepth 100000 in
theorem other2 : OtherOk ⟨#[47, 63]⟩ := by unfold OtherOk; decide +kernel
/-- All characters of a part of an address. -/
theorem chars_both (s o : ByteArray) (hs : s.size ≤ 9000000000000000000) (ho : OtherOk o) : ∀ (d i : Nat), s.size - i < d → i ≤ s.size →
    ∃ r : Bool, Ev (fun k => spec_l1Chars.l0 k s o (i : Int)) r ∧ Ev (fun k => impl_arePchars.l0 k s o (i : Int)) r := by
  intro d
  induction d with
  | zero => intro i h; omega
  | succ d ih =>
    intro i hd hi
    by_cases hz : i = s.size
    · refine ⟨true, Ev.step (fun k => ?_) (Ev.now _), Ev.step (fun k => ?_) (Ev.now _)⟩
      · simp only [spec_l1Chars.l0]; rw [if_neg (by omega)]
      · simp only [impl_arePchars.l0]; rw [if_neg (by omega)]
    · obtain ⟨ho1, ho2, ho3⟩ := ho
      obtain ⟨b, hb⟩ := bt_byte s (i : Int)
      have hB := ho1 b
      obtain ⟨t1, e1, hB⟩ : ∃ t1, spec_l1Free.f (b.val : Int) = some t1 ∧ ((spec_l1Has.f 20 Sub13 (b.val : Int)).bind fun t2 => (spec_l1Has.f 20 o (b.val : Int)).bind fun t3 => some (t1 || (t2 || t3))) = impl_isAmong.f (b.val : Int) (Sub17 ++ o) := by
        cases h : spec_l1Free.f (b.val : Int) with
        | some t1 => rw [h] at hB; exact ⟨t1, rfl, hB⟩
        | none =>
          exfalso
          unfold spec_l1Free.f at h
          rw [letter_byte, digit_byte] at h
          simp only [Option.bind_some] at h
          repeat' split at h
          all_goals simp at h
      have hne : impl_isAmong.f (b.val : Int) (Sub17 ++ o) ≠ none := by
        intro h
        unfold impl_isAmong.f impl_isLetter.f impl_isDigit.f strings_IndexByte.f at h
        simp only [Option.bind_some] at h
        repeat' split at h
        all_goals simp at h
        all_goals (repeat' split at h)
        all_goals simp at h
      obtain ⟨c, hc⟩ := Option.ne_none_iff_exists'.1 hne
      rw [hc] at hB
      obtain ⟨t2, e2, hB⟩ := Option.bind_eq_some_iff.1 hB
      obtain ⟨t3, e3, hB⟩ := Option.bind_eq_some_iff.1 hB
      have hB := Option.some.inj hB
      have E2 : Ev (fun k => spec_l1Has.f k Sub13 (b.val : Int)) t2 := Ev.of (fun k => spec_l1Has.mono _ _ k) e2
      have E3 : Ev (fun k => spec_l1Has.f k o (b.val : Int)) t3 := Ev.of (fun k => spec_l1Has.mono _ _ k) e3
      have S : ∀ q, Ev (fun k => spec_l1Chars.j1 k s o (i : Int) c) q → Ev (fun k => spec_l1Chars.l0 k s o (i : Int)) q := fun q hq => by
        refine Ev.step (fun k => rfl) ?_
        simp only [spec_l1Chars.l0]
        rw [hb]
        refine Ev.pos (by omega) (Ev.pos (by omega) (Ev.bnd e1 ?_))
        subst hB
        cases t1 with
        | true => exact Ev.pos rfl hq
        | false =>
          refine Ev.neg (by decide) (Ev.bind E2 ?_)
          cases t2 with
          | true => exact Ev.pos rfl hq
          | false => exact Ev.neg (by decide) (Ev.bind E3 hq)
      have w1 : wrap64 ((i : Int) + 1) = ((i + 1 : Nat) : Int) := wrap_add (n := 1) (by omega)
      have w2 : wrap64 ((i : Int) + 2) = ((i + 2 : Nat) : Int) := wrap_add (n := 2) (by omega)
      have w3 : wrap64 (((i + 2 : Nat) : Int) + 1) = ((i + 3 : Nat) : Int) := wrap_add (n := 1) (by omega)
      obtain ⟨v, v0, v1, p1, p2, p3⟩ := percent_both s hs i (by omega)
      have J : c = false → ∀ q, (v < 0 → q = false) → (0 ≤ v → Ev (fun k => spec_l1Chars.l0 k s o ((i + 3 : Nat) : Int)) q) → Ev (fun k => spec_l1Chars.j1 k s o (i : Int) c) q := fun hcf q h1 h2 => by
        subst hcf
        refine Ev.step (fun k => rfl) ?_
        simp only [spec_l1Chars.j1]
        rw [w2, w3]
        refine Ev.neg (by decide) (Ev.bind p1 ?_)
        by_cases hv : v < 0
        · rw [h1 hv]; exact Ev.pos hv (Ev.now _)
        · exact Ev.neg hv (h2 (by omega))
      by_cases h37 : bt s (i : Int) = 37
      · have hcf : c = false := by
          rw [h37] at hb
          rw [← hb, ho2] at hc
          exact (Option.some.inj hc).symm
        by_cases hv : v < 0
        · refine ⟨false, S _ (J hcf _ (fun _ => rfl) (fun h => by omega)), ?_⟩
          refine Ev.step (fun k => rfl) ?_
          simp only [impl_arePchars.l0, Int.toNat_natCast]
          rw [if_pos hv] at p2
          exact Ev.pos (by omega) (Ev.pos (by omega) (Ev.pos h37 (Ev.pos (by omega) (Ev.bind p2 (Ev.neg (by decide) (Ev.now _))))))
        · obtain ⟨r, r1, r2⟩ := ih (i + 3) (by omega) (by have := p3 (by omega); omega)
          refine ⟨r, S _ (J hcf _ (fun h => absurd h hv) (fun _ => r1)), ?_⟩
          refine Ev.step (fun k => rfl) ?_
          simp only [impl_arePchars.l0, Int.toNat_natCast]
          rw [if_neg hv] at p2
          rw [w2, w3]
          exact Ev.pos (by omega) (Ev.pos (by omega) (Ev.pos h37 (Ev.pos (by omega) (Ev.bind p2 (Ev.pos rfl r2)))))
      · have I : ∀ q, (c = true → Ev (fun k => impl_arePchars.l0 k s o ((i + 1 : Nat) : Int)) q) → (c = false → q = false) → Ev (fun k => impl_arePchars.l0 k s o (i : Int)) q := fun q h1 h2 => by
          refine Ev.step (fun k => rfl) ?_
          simp only [impl_arePchars.l0]
          rw [w1]
          refine Ev.pos (by omega) (Ev.pos (by omega) (Ev.neg h37 (Ev.pos (by omega) (Ev.bnd (hb ▸ hc) ?_))))
          cases c with
          | true => exact Ev.pos rfl (h1 rfl)
          | false => rw [h2 rfl]; exact Ev.neg (by decide) (Ev.now _)
        cases hcc : c with
        | true =>
          obtain ⟨r, r1, r2⟩ := ih (i + 1) (by omega) (by omega)
          refine ⟨r, S _ ?_, I _ (fun _ => r2) (fun h => by rw [hcc] at h; cases h)⟩
          rw [hcc]
          refine Ev.step (fun k => rfl) ?_
          simp only [spec_l1Chars.j1]
          rw [w1]
          exact Ev.pos (by trivial) r1
        | false =>
          have hv : v < 0 := by
            by_cases h : v < 0
            · exact h
            · exact absurd (p3 (by omega)).2 h37
          exact ⟨false, S _ (J hcc _ (fun _ => rfl) (fun h => by omega)), I _ (fun h => by rw [hcc] at h; cases h) (fun _ => rfl)⟩
theorem chars_eq (s o : ByteArray) (hs : s.size ≤ 9000000000000000000) (ho : OtherOk o) : ∃ r : Bool, Ev (fun k => spec_l1Chars.f k s o) r ∧ Ev (fun k => impl_arePchars.f k s o) r := by
  obtain ⟨r, h1, h2⟩ := chars_both s o hs ho (s.size + 1) 0 (by omega) (by omega)
  exact ⟨r, by unfold spec_l1Chars.f; exact h1, by unfold impl_arePchars.f; exact h2⟩
/-- A number's text. -/
theorem num_eq : ∀ (d n : Nat), n < d → n ≤ 9223372036854775807 → Ev (fun k => spec_l1Num.f k (n : Int)) (⟨(Lib.itoa (n : Int)).toArray⟩ : ByteArray)
  | 0, n, h, _ => by omega
  | d + 1, n, h, hn => by
    have hI : Lib.itoa (n : Int) = Lib.decDigits n := by unfold Lib.itoa; rw [if_neg (by omega), Int.toNat_natCast]
    rw [hI]
    refine Ev.step (fun k => rfl) ?_
    simp only [spec_l1Num.f]
    by_cases h10 : n < 10
    · refine Ev.pos (by omega) (Ev.eq (Ev.now _) ?_)
      rw [Lib.decDigits_one h10, wrap_id (by omega) (by omega)]
      unfold strOfNums
      simp only [List.map_cons, List.map_nil]
      congr 2
      rw [show ((48 + (n : Int)) % 256).toNat = 48 + n by omega]
    · have e1 : Int.tdiv (n : Int) 10 = ((n / 10 : Nat) : Int) := by rw [Int.tdiv_eq_ediv_of_nonneg (by omega)]; omega
      have e2 : Int.tmod (n : Int) 10 = ((n % 10 : Nat) : Int) := by rw [Int.tmod_eq_emod_of_nonneg (by omega)]; omega
      have ih := num_eq d (n / 10) (by omega) (by omega)
      have hI2 : Lib.itoa ((n / 10 : Nat) : Int) = Lib.decDigits (n / 10) := by unfold Lib.itoa; rw [if_neg (by omega), Int.toNat_natCast]
      rw [hI2] at ih
      refine Ev.neg (by omega) ?_
      rw [e1, e2, wrap_id (x := ((n / 10 : Nat) : Int)) (by omega) (by omega), wrap_id (x := 48 + ((n % 10 : Nat) : Int)) (by omega) (by omega)]
      refine Ev.bind ih (Ev.bnd rfl ?_)
      have hl : (Lib.decDigits (n / 10)).length ≤ 21 := by
        have := Lib.itoa_length_le ((n / 10 : Nat) : Int) (by omega) (by omega)
        rw [hI2] at this; exact this
      have hd : Lib.decDigits n = Lib.decDigits (n / 10) ++ [UInt8.ofNat (48 + n % 10)] := by
        rw [Lib.decDigits, dif_neg h10]
      have hone : strOfNums [(48 + ((n % 10 : Nat) : Int)) % 256] = (⟨#[UInt8.ofNat (48 + n % 10)]⟩ : ByteArray) := by
        unfold strOfNums
        simp only [List.map_cons, List.map_nil]
        rw [show ((48 + ((n % 10 : Nat) : Int)) % 256).toNat = 48 + n % 10 by omega]
      rw [hone]
      refine Ev.pos ?_ (Ev.eq (Ev.now _) ?_)
      · show (Lib.decDigits (n / 10)).toArray.size + 1 ≤ _
        rw [List.size_toArray]; omega
      · rw [hd]
        apply ByteArray.ext
        simp [ByteArray.data_append]
theorem z3 : (⟨#[58, 47, 47]⟩ : ByteArray).size = 3 := rfl
theorem z1 : (⟨#[58]⟩ : ByteArray).size = 1 := rfl
theorem z1q : (⟨#[63]⟩ : ByteArray).size = 1 := rfl
/-- The text of an address. -/
theorem text_both (a b : ByteArray) (n : Int) (c d : ByteArray) (e : Bool) (ha : a.size ≤ 1048576) (hb : b.size ≤ 1048576) (h0 : 0 ≤ n) (h1 : n ≤ 9223372036854775807) (hc : c.size ≤ 1048576) (hd : d.size ≤ 1048576) :
    ∃ t : ByteArray, Ev (fun k => spec_l1Text.f k a b n c d e) t ∧ impl_urlText.f a b n c d e = some t ∧ c.size ≤ t.size ∧ (e = true → d.size ≤ t.size) := by
  unfold spec_l1Text.f impl_urlText.f
  have hA := ByteArray.size_append (a := a) (b := ⟨#[58, 47, 47]⟩)
  by_cases hn : n = 0
  · cases e with
    | true =>
      refine ⟨_, Ev.pos (by omega) (Ev.pos ?_ (Ev.pos hn (Ev.pos ?_ (Ev.pos rfl (Ev.pos ?_ (Ev.pos ?_ (Ev.now _))))))), (if_pos (by omega)).trans ((if_pos ?_).trans ((if_pos hn).trans ((if_pos ?_).trans ((if_pos rfl).trans ((if_pos ?_).trans (if_pos ?_)))))), ?_, fun _ => ?_⟩
      all_goals (try simp only [ByteArray.size_append, z3, z1q])
      all_goals omega
    | false =>
      refine ⟨_, Ev.pos (by omega) (Ev.pos ?_ (Ev.pos hn (Ev.pos ?_ (Ev.neg (by decide) (Ev.now _))))), (if_pos (by omega)).trans ((if_pos ?_).trans ((if_pos hn).trans ((if_pos ?_).trans (if_neg (by decide))))), ?_, fun h => by cases h⟩
      all_goals (try simp only [ByteArray.size_append, z3, z1q])
      all_goals omega
  · obtain ⟨n, rfl⟩ : ∃ m : Nat, n = m := ⟨n.toNat, by omega⟩
    have E := num_eq (n + 1) n (by omega) (by omega)
    have hI : strconv_Itoa.f (n : Int) = some (⟨(Lib.itoa (n : Int)).toArray⟩ : ByteArray) := by unfold strconv_Itoa.f; exact if_pos ⟨by omega, by omega⟩
    have hl : (⟨(Lib.itoa (n : Int)).toArray⟩ : ByteArray).size ≤ 21 := by
      show (Lib.itoa (n : Int)).toArray.size ≤ 21
      rw [List.size_toArray]
      exact Lib.itoa_length_le _ (by omega) (by omega)
    generalize (⟨(Lib.itoa (n : Int)).toArray⟩ : ByteArray) = T at E hI hl
    cases e with
    | true =>
      refine ⟨_, Ev.pos (by omega) (Ev.pos ?_ (Ev.neg hn (Ev.bind E (Ev.pos ?_ (Ev.pos ?_ (Ev.pos ?_ (Ev.pos rfl (Ev.pos ?_ (Ev.pos ?_ (Ev.now _)))))))))), (if_pos (by omega)).trans ((if_pos ?_).trans ((if_neg hn).trans (Option.bind_eq_some_iff.2 ⟨_, hI, (if_pos ?_).trans ((if_pos ?_).trans ((if_pos ?_).trans ((if_pos rfl).trans ((if_pos ?_).trans (if_pos ?_)))))⟩))), ?_, fun _ => ?_⟩
      all_goals (try simp only [ByteArray.size_append, z3, z1, z1q])
      all_goals omega
    | false =>
      refine ⟨_, Ev.pos (by omega) (Ev.pos ?_ (Ev.neg hn (Ev.bind E (Ev.pos ?_ (Ev.pos ?_ (Ev.pos ?_ (Ev.neg (by decide) (Ev.now _)))))))), (if_pos (by omega)).trans ((if_pos ?_).trans ((if_neg hn).trans (Option.bind_eq_some_iff.2 ⟨_, hI, (if_pos ?_).trans ((if_pos ?_).trans ((if_pos ?_).trans (if_neg (by decide))))⟩))), ?_, fun h => by cases h⟩
      all_goals (try simp only [ByteArray.size_append, z3, z1, z1q])
      all_goals omega
end Go.Proofs.YtehflacblgliiaaDoor.Q

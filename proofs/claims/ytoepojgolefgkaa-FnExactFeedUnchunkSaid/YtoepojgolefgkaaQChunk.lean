/- Chunks: the reference's and the program's readings are one. No condition. -/
import Derived.Test.YtoepojgolefgkaaF3
import Derived.Test.YtoepojgolefgkaaF8
import Derived.Test.YtoepojgolefgkaaQHex
namespace Go.Proofs.Ytoepojgolefgkaa.Q
open Go.RowKit Go.Proofs.Ytoepojgolefgkaa.F Go.Proofs.YtoepojgolefgkaaHw Go.Proofs.YtoepojgolefgkaaPl Go.Proofs.YtoepojgolefgkaaW.PrintWords
set_option linter.unusedVariables false
set_option linter.unusedSimpArgs false
def HexAt (s : ByteArray) (i : Nat) : Prop := ∃ h, impl_hexValue.f (bt s (i : Int)) = some h ∧ 0 ≤ h
theorem hex_all (s : ByteArray) (h1 : 1 ≤ s.size) (h4 : s.size ≤ 4) (hh : ∀ i, i < s.size → HexAt s i) : ∀ (d i : Nat) (x : Int), i + d = s.size → 0 ≤ x → x < 16 ^ i →
    ∃ r : Int, 0 ≤ r ∧ r < 65536 ∧ Ev (fun k => spec_l5Read.l0 k s x (i : Int)) r ∧ Ev (fun k => impl_ReadHex.l0 k s x (s.size : Int) (i : Int)) (r, true) := by
  intro d
  induction d with
  | zero =>
    intro i x hi h0 hx
    have hp : (16 : Int) ^ i ≤ 65536 := by
      have : i = 0 ∨ i = 1 ∨ i = 2 ∨ i = 3 ∨ i = 4 := by omega
      rcases this with rfl | rfl | rfl | rfl | rfl <;> decide
    refine ⟨x, h0, by omega, Ev.step (fun k => ?_) (Ev.now _), Ev.step (fun k => ?_) (Ev.now _)⟩
    · simp only [spec_l5Read.l0]
      rw [if_neg (by omega)]
      unfold spec_l1In.f
      rw [if_pos (by omega), show decide ((s.size : Int) ≤ 4) = true by simp; omega]; rfl
    · simp only [impl_ReadHex.l0]
      rw [if_neg (by omega)]
  | succ d ih =>
    intro i x hi h0 hx
    have hw := wrap_succ (i := i) (n := s.size) (by omega) (by omega)
    obtain ⟨h, a1, a2, a3, a4⟩ := hex_at s (i : Int)
    obtain ⟨h', e', hh'⟩ := hh i (by omega)
    rw [a2] at e'
    obtain rfl := Option.some.inj e'
    have hp : (16 : Int) ^ i ≤ 4096 := by
      have : i = 0 ∨ i = 1 ∨ i = 2 ∨ i = 3 := by omega
      rcases this with rfl | rfl | rfl | rfl <;> decide
    have st : ∀ k, spec_l5Read.l0 (k + 1) s x (i : Int) = (spec_l1Hex.f k (bt s (i : Int))).bind fun t => if t < 0 then some (-1) else spec_l5Read.l0 k s (wrap64 ((wrap64 (16 * x)) + t)) (wrap64 ((i : Int) + 1)) := fun k => by
      simp only [spec_l5Read.l0]
      rw [if_pos (by omega), if_pos (by omega)]
    have e1 : wrap64 (wrap64 (16 * x) + h) = 16 * x + h := by rw [wrap_id (x := 16 * x) (by omega) (by omega), wrap_id (by omega) (by omega)]
    have e2 : Go.bits .or .i64 (wrap64 (x * 16)) h = 16 * x + h := by rw [wrap_id (x := x * 16) (by omega) (by omega), or4 (by omega) (by omega) (by omega) (by omega) (by omega)]; omega
    obtain ⟨r, b0, b1, b2, b3⟩ := ih (i + 1) (16 * x + h) (by omega) (by omega) (by rw [Int.pow_succ]; omega)
    refine ⟨r, b0, b1, Ev.step st (Ev.bind a1 (Ev.neg (by omega) ?_)), Ev.step (fun k => ?_) b3⟩
    · rw [hw, e1]; exact b2
    · simp only [impl_ReadHex.l0]
      rw [if_pos (by omega), if_pos (by omega), if_pos (by omega), a2]
      simp only [Option.bind_some]
      rw [if_neg (by omega), hw, e2]
/-- The digits ahead of a place, read. -/
theorem hex_read (s : ByteArray) (a x : Nat) (h1 : a < x) (h4 : x ≤ a + 4) (hx : x ≤ s.size) (hh : ∀ i, a ≤ i → i < x → HexAt s i) :
    ∃ r : Int, 0 ≤ r ∧ r < 65536 ∧ Ev (fun k => spec_l5Read.f k (s.extract (a : Int).toNat (x : Int).toNat)) r ∧ Ev (fun k => impl_ReadHex.f k (s.extract (a : Int).toNat (x : Int).toNat)) (r, true) := by
  have hz : (s.extract a x).size = x - a := extract_size s a x hx
  have hh' : ∀ i, i < (s.extract a x).size → HexAt (s.extract a x) i := fun i hi => by
    unfold HexAt
    rw [bt_extract s a x i (by omega)]
    exact hh (a + i) (by omega) (by omega)
  obtain ⟨r, b0, b1, b2, b3⟩ := hex_all (s.extract a x) (by omega) (by omega) hh' (s.extract a x).size 0 0 (by omega) (by omega) (by decide)
  simp only [Int.toNat_natCast]
  refine ⟨r, b0, b1, ?_, ?_⟩
  · unfold spec_l5Read.f; exact b2
  · unfold impl_ReadHex.f
    have hin : impl_within.f ((s.extract a x).size : Int) 1 4 = some true := by
      unfold impl_within.f
      rw [if_pos (by omega)]; congr 1; rw [decide_eq_true_iff]; omega
    rw [hin]
    simp only [Option.bind_some, if_true]
    exact b3
theorem hex13 : impl_hexValue.f 13 = some (-1) := by decide +kernel
abbrev Bx : ByteArray := ⟨#[]⟩
/-- At the byte 13 behind the digits. -/
theorem at_cr (s b : ByteArray) (m : Int) (a x : Nat) (hs : s.size ≤ 4611686018427387904) (hb : b.size ≤ 300) (h0 : a ≤ x) (h4 : x ≤ a + 4) (hx : x < s.size) (hcr : bt s (x : Int) = 13) (hh : ∀ i, a ≤ i → i < x → HexAt s i) :
    ∃ n code : Int, Ev (fun k => impl_chunks_size.j1 k a s x b m) (n, code, s, (x : Int), b, m) ∧
      ((code = 0 ∧ a < x ∧ 0 ≤ n ∧ b.size + n ≤ 300 ∧ (0 < n → m ≠ 60) ∧ ∀ r, Ev (fun k => spec_l5Chunks.j5 k s b m x n false) r → Ev (fun k => spec_l5Chunks.j2 k s b a m x false) r) ∨
       (code = 2 ∧ Ev (fun k => spec_l5Chunks.j2 k s b a m x false) (Bx, 0, 2))) := by
  have w1 : wrap64 ((x : Int) - (a : Int)) = (x : Int) - a := wrap_id (by omega) (by omega)
  by_cases hax : x = a
  · subst hax
    refine ⟨0, 2, ?_, .inr ⟨rfl, ?_⟩⟩
    · refine Ev.step (fun k => rfl) ?_
      simp only [impl_chunks_size.j1]
      refine Ev.neg (by omega) (Ev.pos (by omega) (Ev.pos (by omega) (Ev.pos (by omega) (Ev.bind (a := (0, false)) ?_ (Ev.neg (by decide) (Ev.now _))))))
      unfold impl_ReadHex.f
      have hz : (s.extract (x : Int).toNat (x : Int).toNat).size = 0 := by rw [ByteArray.size_extract]; omega
      exact Ev.bnd (a := false) (by unfold impl_within.f; rw [if_neg (by omega)]) (Ev.neg (by decide) (Ev.now _))
    · refine Ev.step (fun k => rfl) ?_
      simp only [spec_l5Chunks.j2]
      refine Ev.neg (by decide) (Ev.neg (by rw [w1]; omega) (Ev.pos (by trivial) ?_))
      refine Ev.step (fun k => rfl) ?_
      simp only [spec_l5Chunks.j3]
      exact Ev.pos (decide_eq_true (by omega)) (Ev.now _)
  · obtain ⟨r, b0, b1, b2, b3⟩ := hex_read s a x (by omega) h4 (by omega) hh
    have w2 : wrap64 ((b.size : Int) + r) = (b.size : Int) + r := wrap_id (by omega) (by omega)
    have I : ∀ q, Ev (fun k : Nat => if (wrap64 ((b.size : Int) + r)) > 300 then (some ((0 : Int), (2 : Int), s, (x : Int), b, m)) else (if r > 0 then (if m = 60 then (some (0, 2, s, (x : Int), b, m)) else (some (r, 0, s, (x : Int), b, m))) else (some (r, 0, s, (x : Int), b, m)))) q → Ev (fun k => impl_chunks_size.j1 k a s x b m) q := fun q hq => by
      refine Ev.step (fun k => rfl) ?_
      simp only [impl_chunks_size.j1]
      exact Ev.neg (by omega) (Ev.pos (by omega) (Ev.pos (by omega) (Ev.pos (by omega) (Ev.bind b3 (Ev.pos (by trivial) (Ev.pos (by omega) (Ev.pos (by omega) (Ev.pos hcr hq))))))))
    have S : ∀ q, Ev (fun k => spec_l5Chunks.j4 k s b m x r) q → Ev (fun k => spec_l5Chunks.j2 k s b a m x false) q := fun q hq => by
      refine Ev.step (fun k => rfl) ?_
      simp only [spec_l5Chunks.j2]
      refine Ev.neg (by decide) (Ev.neg (by rw [w1]; omega) (Ev.neg (by omega) ?_))
      refine Ev.step (fun k => rfl) ?_
      simp only [spec_l5Chunks.j3]
      exact Ev.neg (by decide) (Ev.pos (by omega) (Ev.pos (by omega) (Ev.pos (by omega) (Ev.pos (by omega) (Ev.bind b2 hq)))))
    by_cases c1 : (b.size : Int) + r > 300
    · refine ⟨0, 2, I _ (Ev.pos (by rw [w2]; exact c1) (Ev.now _)), .inr ⟨rfl, S _ ?_⟩⟩
      refine Ev.step (fun k => rfl) ?_
      simp only [spec_l5Chunks.j4]
      refine Ev.pos (by omega) (Ev.pos (by rw [w2]; exact c1) ?_)
      refine Ev.step (fun k => rfl) ?_
      simp only [spec_l5Chunks.j5]
      exact Ev.pos (by trivial) (Ev.now _)
    · by_cases c2 : r > 0
      · by_cases c3 : m = 60
        · refine ⟨0, 2, I _ (Ev.neg (by rw [w2]; exact c1) (Ev.pos c2 (Ev.pos c3 (Ev.now _)))), .inr ⟨rfl, S _ ?_⟩⟩
          refine Ev.step (fun k => rfl) ?_
          simp only [spec_l5Chunks.j4]
          refine Ev.pos (by omega) (Ev.neg (by rw [w2]; exact c1) (Ev.pos c2 ?_))
          rw [show (m == 60) = true from beq_iff_eq.mpr c3]
          refine Ev.step (fun k => rfl) ?_
          simp only [spec_l5Chunks.j5]
          exact Ev.pos (by trivial) (Ev.now _)
        · refine ⟨r, 0, I _ (Ev.neg (by rw [w2]; exact c1) (Ev.pos c2 (Ev.neg c3 (Ev.now _)))), .inl ⟨rfl, by omega, b0, by omega, fun _ => c3, fun q hq => S _ ?_⟩⟩
          refine Ev.step (fun k => rfl) ?_
          simp only [spec_l5Chunks.j4]
          refine Ev.pos (by omega) (Ev.neg (by rw [w2]; exact c1) (Ev.pos c2 ?_))
          rw [show (m == 60) = false from beq_eq_false_iff_ne.mpr c3]
          exact hq
      · refine ⟨r, 0, I _ (Ev.neg (by rw [w2]; exact c1) (Ev.neg c2 (Ev.now _))), .inl ⟨rfl, by omega, b0, by omega, fun h => absurd h c2, fun q hq => S _ ?_⟩⟩
        refine Ev.step (fun k => rfl) ?_
        simp only [spec_l5Chunks.j4]
        exact Ev.pos (by omega) (Ev.neg (by rw [w2]; exact c1) (Ev.neg c2 hq))
/-- Where the digits end at what is neither the byte 13 nor a digit: both refuse. -/
theorem bad_j1 (s b : ByteArray) (m : Int) (a x : Nat) (hs : s.size ≤ 4611686018427387904) (h0 : a ≤ x) (h4 : x ≤ a + 4) (hx : x < s.size) (hcr : bt s (x : Int) ≠ 13) (hh : ∀ i, a ≤ i → i < x → HexAt s i) :
    Ev (fun k => impl_chunks_size.j1 k a s x b m) (0, 2, s, (x : Int), b, m) := by
  refine Ev.step (fun k => rfl) ?_
  simp only [impl_chunks_size.j1]
  refine Ev.neg (by omega) (Ev.pos (by omega) (Ev.pos (by omega) (Ev.pos (by omega) ?_)))
  by_cases hax : x = a
  · subst hax
    refine Ev.bind (a := (0, false)) ?_ (Ev.neg (by decide) (Ev.now _))
    unfold impl_ReadHex.f
    have hz : (s.extract (x : Int).toNat (x : Int).toNat).size = 0 := by rw [ByteArray.size_extract]; omega
    exact Ev.bnd (a := false) (by unfold impl_within.f; rw [if_neg (by omega)]) (Ev.neg (by decide) (Ev.now _))
  · obtain ⟨r, b0, b1, b2, b3⟩ := hex_read s a x (by omega) h4 (by omega) hh
    exact Ev.bind b3 (Ev.pos (by trivial) (Ev.pos (by omega) (Ev.pos (by omega) (Ev.neg hcr (Ev.now _)))))
/-- At the text's end. -/
theorem at_end (s b : ByteArray) (m : Int) (a : Nat) (hs : s.size ≤ 4611686018427387904) (h0 : a ≤ s.size) (h4 : s.size ≤ a + 4) (hh : ∀ i, a ≤ i → i < s.size → HexAt s i) :
    Ev (fun k => impl_chunks_size.j1 k a s s.size b m) (0, 1, s, (s.size : Int), b, m) ∧ Ev (fun k => spec_l5Chunks.j2 k s b a m s.size false) (Bx, 0, 1) := by
  have w1 : wrap64 ((s.size : Int) - (a : Int)) = (s.size : Int) - a := wrap_id (by omega) (by omega)
  have w3 : wrap64 ((s.size : Int) + 0) = (s.size : Int) := wrap_id (by omega) (by omega)
  constructor
  · refine Ev.step (fun k => rfl) ?_
    simp only [impl_chunks_size.j1]
    exact Ev.pos (by trivial) (Ev.now _)
  · have J4 : ∀ n, Ev (fun k => spec_l5Chunks.j4 k s b m s.size n) (Bx, 0, 1) := fun n => by
      refine Ev.step (fun k => rfl) ?_
      simp only [spec_l5Chunks.j4]
      refine Ev.neg (by omega) ?_
      refine Ev.step (fun k => rfl) ?_
      simp only [spec_l5Chunks.j5]
      refine Ev.neg (by decide) (Ev.bind (a := 1) ?_ (Ev.neg (by decide) (Ev.now _)))
      unfold spec_l5Expect.f
      simp only [Option.bind_some]
      refine Ev.step (fun k => rfl) ?_
      simp only [spec_l5Expect.l0]
      exact Ev.pos (by decide) (Ev.pos (by decide) (Ev.pos (by decide) (Ev.pos (by rw [w3]; omega) (Ev.now _))))
    have J3 : Ev (fun k => spec_l5Chunks.j3 k s b a m s.size false) (Bx, 0, 1) := by
      refine Ev.step (fun k => rfl) ?_
      simp only [spec_l5Chunks.j3]
      refine Ev.neg (by decide) ?_
      by_cases c : a < s.size
      · obtain ⟨r, b0, b1, b2, b3⟩ := hex_read s a s.size c h4 (by omega) hh
        exact Ev.pos (by omega) (Ev.pos (by omega) (Ev.pos (by omega) (Ev.pos (by omega) (Ev.bind b2 (J4 r)))))
      · exact Ev.neg (by omega) (J4 0)
    refine Ev.step (fun k => rfl) ?_
    simp only [spec_l5Chunks.j2]
    refine Ev.neg (by decide) (Ev.neg (by rw [w1]; omega) ?_)
    by_cases c : (s.size : Int) = (a : Int)
    · refine Ev.pos c ?_
      rw [decide_eq_false (show ¬ ((s.size : Int) < (s.size : Int)) by omega)]
      exact J3
    · exact Ev.neg c J3
/-- The digits of a size, from a place among them. -/
theorem scan (s b : ByteArray) (m : Int) (a : Nat) (hs : s.size ≤ 4611686018427387904) (hb : b.size ≤ 300) : ∀ (d x : Nat), x + d = a + 4 → a ≤ x → x ≤ s.size → (∀ i, a ≤ i → i < x → HexAt s i) →
    ∃ (n code : Int) (p : Nat), p ≤ a + 4 ∧ p ≤ s.size ∧ Ev (fun k => impl_chunks_size.l0 k a s x b m) (n, code, s, (p : Int), b, m) ∧
      ((code = 0 ∧ a < p ∧ p < s.size ∧ bt s (p : Int) = 13 ∧ 0 ≤ n ∧ b.size + n ≤ 300 ∧ (0 < n → m ≠ 60) ∧ ∀ r, Ev (fun k => spec_l5Chunks.j5 k s b m p n false) r → Ev (fun k => spec_l5Chunks.l1 k s b a m x) r) ∨
       (code = 1 ∧ s.size ≤ a + 4 ∧ Ev (fun k => spec_l5Chunks.l1 k s b a m x) (Bx, 0, 1)) ∨
       (code = 2 ∧ Ev (fun k => spec_l5Chunks.l1 k s b a m x) (Bx, 0, 2))) := by
  intro d
  induction d with
  | zero =>
    intro x hd h0 hx hh
    have w1 : wrap64 ((x : Int) - (a : Int)) = (x : Int) - a := wrap_id (by omega) (by omega)
    by_cases hz : x = s.size
    · subst hz
      obtain ⟨e1, e2⟩ := at_end s b m a hs (by omega) (by omega) hh
      refine ⟨0, 1, s.size, by omega, Nat.le_refl _, ?_, .inr (.inl ⟨rfl, by omega, ?_⟩)⟩
      · refine Ev.step (fun k => rfl) ?_
        simp only [impl_chunks_size.l0]
        exact Ev.neg (by omega) e1
      · refine Ev.step (fun k => rfl) ?_
        simp only [spec_l5Chunks.l1]
        exact Ev.neg (by omega) e2
    · have IL : ∀ q, Ev (fun k => impl_chunks_size.j1 k a s x b m) q → Ev (fun k => impl_chunks_size.l0 k a s x b m) q := fun q hq => by
        refine Ev.step (fun k => rfl) ?_
        simp only [impl_chunks_size.l0]
        exact Ev.pos (by omega) (Ev.neg (by rw [w1]; omega) hq)
      have SL : ∀ q, Ev (fun k => spec_l5Chunks.j2 k s b a m x ((bt s (x : Int)) != 13)) q → Ev (fun k => spec_l5Chunks.l1 k s b a m x) q := fun q hq => by
        refine Ev.step (fun k => rfl) ?_
        simp only [spec_l5Chunks.l1]
        exact Ev.pos (by omega) (Ev.pos (by rw [w1]; omega) (Ev.pos (by omega) hq))
      by_cases hcr : bt s (x : Int) = 13
      · rw [show (bt s (x : Int) != 13) = false from bne_eq_false_iff_eq.mpr hcr] at SL
        obtain ⟨n, code, e1, e2⟩ := at_cr s b m a x hs hb h0 (by omega) (by omega) hcr hh
        refine ⟨n, code, x, by omega, hx, IL _ e1, ?_⟩
        rcases e2 with ⟨rfl, h1, h2, h3, h5, h4⟩ | ⟨rfl, h1⟩
        · exact .inl ⟨rfl, h1, by omega, hcr, h2, h3, h5, fun r hr => SL _ (h4 r hr)⟩
        · exact .inr (.inr ⟨rfl, SL _ h1⟩)
      · rw [show (bt s (x : Int) != 13) = true from bne_iff_ne.mpr hcr] at SL
        refine ⟨0, 2, x, by omega, hx, IL _ (bad_j1 s b m a x hs h0 (by omega) (by omega) hcr hh), .inr (.inr ⟨rfl, SL _ ?_⟩)⟩
        obtain ⟨h, a1, a2, a3, a4⟩ := hex_at s (x : Int)
        refine Ev.step (fun k => rfl) ?_
        simp only [spec_l5Chunks.j2]
        refine Ev.pos (by trivial) (Ev.pos (by omega) (Ev.pos (by omega) (Ev.bind a1 ?_)))
        by_cases hn : h < 0
        · exact Ev.pos hn (Ev.now _)
        · refine Ev.neg hn ?_
          rw [wrap_succ (i := x) (n := s.size) (by omega) (by omega)]
          have w5 : wrap64 (((x + 1 : Nat) : Int) - (a : Int)) = 5 := by rw [wrap_id (by omega) (by omega)]; omega
          have B : Ev (fun k => spec_l5Chunks.j2 k s b a m ((x + 1 : Nat) : Int) false) (Bx, 0, 2) := by
            refine Ev.step (fun k => rfl) ?_
            simp only [spec_l5Chunks.j2]
            refine Ev.neg (by decide) (Ev.pos (by rw [w5]; decide) ?_)
            refine Ev.step (fun k => rfl) ?_
            simp only [spec_l5Chunks.j3]
            exact Ev.pos (by trivial) (Ev.now _)
          refine Ev.step (fun k => rfl) ?_
          simp only [spec_l5Chunks.l1]
          by_cases hy : ((x + 1 : Nat) : Int) < (s.size : Int)
          · exact Ev.pos hy (Ev.neg (by rw [w5]; decide) B)
          · exact Ev.neg hy B
  | succ d ih =>
    intro x hd h0 hx hh
    have w1 : wrap64 ((x : Int) - (a : Int)) = (x : Int) - a := wrap_id (by omega) (by omega)
    by_cases hz : x = s.size
    · subst hz
      obtain ⟨e1, e2⟩ := at_end s b m a hs (by omega) (by omega) hh
      refine ⟨0, 1, s.size, by omega, Nat.le_refl _, ?_, .inr (.inl ⟨rfl, by omega, ?_⟩)⟩
      · refine Ev.step (fun k => rfl) ?_
        simp only [impl_chunks_size.l0]
        exact Ev.neg (by omega) e1
      · refine Ev.step (fun k => rfl) ?_
        simp only [spec_l5Chunks.l1]
        exact Ev.neg (by omega) e2
    · obtain ⟨h, a1, a2, a3, a4⟩ := hex_at s (x : Int)
      have SL : ∀ q, Ev (fun k => spec_l5Chunks.j2 k s b a m x ((bt s (x : Int)) != 13)) q → Ev (fun k => spec_l5Chunks.l1 k s b a m x) q := fun q hq => by
        refine Ev.step (fun k => rfl) ?_
        simp only [spec_l5Chunks.l1]
        exact Ev.pos (by omega) (Ev.pos (by rw [w1]; omega) (Ev.pos (by omega) hq))
      have ws := wrap_succ (i := x) (n := s.size) (by omega) (by omega)
      by_cases hn : h < 0
      · have IL : ∀ q, Ev (fun k => impl_chunks_size.j1 k a s x b m) q → Ev (fun k => impl_chunks_size.l0 k a s x b m) q := fun q hq => by
          refine Ev.step (fun k => rfl) ?_
          simp only [impl_chunks_size.l0]
          exact Ev.pos (by omega) (Ev.pos (by rw [w1]; omega) (Ev.pos (by omega) (Ev.bnd a2 (Ev.neg (by omega) hq))))
        by_cases hcr : bt s (x : Int) = 13
        · rw [show (bt s (x : Int) != 13) = false from bne_eq_false_iff_eq.mpr hcr] at SL
          obtain ⟨n, code, e1, e2⟩ := at_cr s b m a x hs hb h0 (by omega) (by omega) hcr hh
          refine ⟨n, code, x, by omega, hx, IL _ e1, ?_⟩
          rcases e2 with ⟨rfl, h1, h2, h3, h5, h4⟩ | ⟨rfl, h1⟩
          · exact .inl ⟨rfl, h1, by omega, hcr, h2, h3, h5, fun r hr => SL _ (h4 r hr)⟩
          · exact .inr (.inr ⟨rfl, SL _ h1⟩)
        · rw [show (bt s (x : Int) != 13) = true from bne_iff_ne.mpr hcr] at SL
          refine ⟨0, 2, x, by omega, hx, IL _ (bad_j1 s b m a x hs h0 (by omega) (by omega) hcr hh), .inr (.inr ⟨rfl, SL _ ?_⟩)⟩
          refine Ev.step (fun k => rfl) ?_
          simp only [spec_l5Chunks.j2]
          exact Ev.pos (by trivial) (Ev.pos (by omega) (Ev.pos (by omega) (Ev.bind a1 (Ev.pos hn (Ev.now _)))))
      · have hcr : bt s (x : Int) ≠ 13 := fun e => by
          rw [e, hex13] at a2
          have := Option.some.inj a2
          omega
        rw [show (bt s (x : Int) != 13) = true from bne_iff_ne.mpr hcr] at SL
        obtain ⟨n, code, p, p1, p2, e1, e2⟩ := ih (x + 1) (by omega) (by omega) (by omega) (fun i i0 i1 => by
          by_cases hi : i < x
          · exact hh i i0 hi
          · obtain rfl : i = x := by omega
            exact ⟨h, a2, by omega⟩)
        have T : ∀ q, Ev (fun k => spec_l5Chunks.l1 k s b a m ((x + 1 : Nat) : Int)) q → Ev (fun k => spec_l5Chunks.l1 k s b a m x) q := fun q hq => SL _ (by
          refine Ev.step (fun k => rfl) ?_
          simp only [spec_l5Chunks.j2]
          refine Ev.pos (by trivial) (Ev.pos (by omega) (Ev.pos (by omega) (Ev.bind a1 (Ev.neg hn ?_))))
          rw [ws]; exact hq)
        refine ⟨n, code, p, p1, p2, ?_, ?_⟩
        · refine Ev.step (fun k => rfl) ?_
          simp only [impl_chunks_size.l0]
          refine Ev.pos (by omega) (Ev.pos (by rw [w1]; omega) (Ev.pos (by omega) (Ev.bnd a2 (Ev.pos (by omega) ?_))))
          rw [ws]; exact e1
        · rcases e2 with ⟨rfl, h1, h2, h3, h4, h5, h7, h6⟩ | ⟨rfl, h1, h2⟩ | ⟨rfl, h1⟩
          · exact .inl ⟨rfl, h1, h2, h3, h4, h5, h7, fun r hr => T _ (h6 r hr)⟩
          · exact .inr (.inl ⟨rfl, h1, T _ h2⟩)
          · exact .inr (.inr ⟨rfl, T _ h1⟩)
theorem exp_0 (s : ByteArray) (p : Int) (q : Int) (hq : Ev (fun k => spec_l5Expect.l0 k s p [13, 10] 2 0) q) : Ev (fun k => spec_l5Expect.f k s p) q := by
  unfold spec_l5Expect.f
  exact Ev.bnd (a := ([13, 10] : List Int)) rfl hq
theorem exp_step (s : ByteArray) (p i : Int) (q : Int) (x : Int) (hi : 0 ≤ i) (hi2 : i < 2) (hx : rd [13, 10] i = x) (h : Ev (fun k => if (wrap64 (p + i)) ≥ (s.size : Int) then (some (1 : Int)) else (if 0 ≤ (wrap64 (p + i)) then (if (wrap64 (p + i)) < (s.size : Int) then (if (bt s (wrap64 (p + i))) = x then (spec_l5Expect.l0 k s p [13, 10] 2 (wrap64 (i + 1))) else (some 2)) else (none)) else (none))) q) : Ev (fun k => spec_l5Expect.l0 k s p [13, 10] 2 i) q := by
  refine Ev.step (fun k => rfl) ?_
  simp only [spec_l5Expect.l0]
  refine Ev.pos hi2 (Ev.pos hi (Ev.pos (by simp; omega) ?_))
  rw [hx]
  exact h
theorem exp_done (s : ByteArray) (p : Int) : Ev (fun k => spec_l5Expect.l0 k s p [13, 10] 2 2) 0 := by
  refine Ev.step (fun k => rfl) ?_
  simp only [spec_l5Expect.l0]
  exact Ev.neg (by omega) (Ev.now _)
theorem rd0 : rd [13, 10] 0 = 13 := by decide
theorem rd1 : rd [13, 10] 1 = 10 := by decide
theorem sign_end (s b : ByteArray) (p m x : Int) (h : p = (s.size : Int)) : impl_chunks_sign.f s p b m x = some (1, s, p, b, m) := by
  unfold impl_chunks_sign.f
  exact if_pos h
theorem sign_ok (s b : ByteArray) (p m x : Int) (h : ¬ p = (s.size : Int)) (h0 : 0 ≤ p) (h1 : p < (s.size : Int)) (hx : bt s p = x) : impl_chunks_sign.f s p b m x = some (0, s, wrap64 (p + 1), b, m) := by
  unfold impl_chunks_sign.f
  exact (if_neg h).trans ((if_pos h0).trans ((if_pos h1).trans (if_pos hx)))
theorem sign_bad (s b : ByteArray) (p m x : Int) (h : ¬ p = (s.size : Int)) (h0 : 0 ≤ p) (h1 : p < (s.size : Int)) (hx : ¬ bt s p = x) : impl_chunks_sign.f s p b m x = some (2, s, p, b, m) := by
  unfold impl_chunks_sign.f
  exact (if_neg h).trans ((if_pos h0).trans ((if_pos h1).trans (if_neg hx)))
theorem end_bad (s b : ByteArray) (p m c : Int) (hc : ¬ c = 0) (h : impl_chunks_sign.f s p b m 13 = some (c, s, p, b, m)) : impl_chunks_end.f s p b m = some (c, s, p, b, m) := by
  unfold impl_chunks_end.f
  rw [h]
  exact if_neg hc
theorem end_ok (s b : ByteArray) (p m : Int) (p1 : Int) (q : Int × ByteArray × Int × ByteArray × Int) (h : impl_chunks_sign.f s p b m 13 = some (0, s, p1, b, m)) (h2 : impl_chunks_sign.f s p1 b m 10 = some q) : impl_chunks_end.f s p b m = some q := by
  unfold impl_chunks_end.f
  rw [h, Option.bind_some]
  show (if (0 : Int) = 0 then (impl_chunks_sign.f s p1 b m 10).bind fun bt126 => some (bt126.1, bt126.2.1, bt126.2.2.1, bt126.2.2.2.1, bt126.2.2.2.2) else some (0, s, p1, b, m)) = some q
  rw [if_pos rfl, h2]
  rfl
/-- The end of a line. -/
theorem end_eq (s b : ByteArray) (m : Int) (p : Nat) (hs : s.size ≤ 4611686018427387904) (hp : p ≤ s.size) :
    ∃ (c : Int) (q : Nat), impl_chunks_end.f s p b m = some (c, s, (q : Int), b, m) ∧ Ev (fun k => spec_l5Expect.f k s p) c ∧ (c = 0 ∧ q = p + 2 ∧ p + 2 ≤ s.size ∨ c = 1 ∧ s.size ≤ p + 1 ∨ c = 2) := by
  have w0 : wrap64 ((p : Int) + 0) = (p : Int) := by rw [wrap_id (by omega) (by omega)]; omega
  have w1 : wrap64 ((p : Int) + 1) = ((p + 1 : Nat) : Int) := by rw [wrap_id (by omega) (by omega)]; omega
  have w2 : wrap64 (((p + 1 : Nat) : Int) + 1) = ((p + 2 : Nat) : Int) := by rw [wrap_id (by omega) (by omega)]; omega
  have ws : wrap64 ((0 : Int) + 1) = 1 := by unfold wrap64; omega
  have ws2 : wrap64 ((1 : Int) + 1) = 2 := by unfold wrap64; omega
  by_cases h1 : p = s.size
  · refine ⟨1, p, end_bad s b p m 1 (by omega) (sign_end s b p m 13 (by omega)), exp_0 s p 1 (exp_step s p 0 1 13 (by omega) (by omega) rd0 ?_), .inr (.inl ⟨rfl, by omega⟩)⟩
    rw [w0]
    exact Ev.pos (by omega) (Ev.now _)
  · by_cases h2 : bt s (p : Int) = 13
    · have e1 := sign_ok s b p m 13 (by omega) (by omega) (by omega) h2
      rw [w1] at e1
      have S1 : ∀ q, Ev (fun k => spec_l5Expect.l0 k s p [13, 10] 2 1) q → Ev (fun k => spec_l5Expect.f k s p) q := fun q hq => exp_0 s p q (exp_step s p 0 q 13 (by omega) (by omega) rd0 (by
        rw [w0, ws]
        exact Ev.neg (by omega) (Ev.pos (by omega) (Ev.pos (by omega) (Ev.pos h2 hq)))))
      by_cases h3 : p + 1 = s.size
      · refine ⟨1, p + 1, end_ok s b p m _ _ e1 (sign_end s b _ m 10 (by omega)), S1 1 (exp_step s p 1 1 10 (by omega) (by omega) rd1 ?_), .inr (.inl ⟨rfl, by omega⟩)⟩
        rw [w1]
        exact Ev.pos (by omega) (Ev.now _)
      · by_cases h4 : bt s ((p + 1 : Nat) : Int) = 10
        · have e2 := sign_ok s b ((p + 1 : Nat) : Int) m 10 (by omega) (by omega) (by omega) h4
          rw [w2] at e2
          refine ⟨0, p + 2, end_ok s b p m _ _ e1 e2, S1 0 (exp_step s p 1 0 10 (by omega) (by omega) rd1 ?_), .inl ⟨rfl, rfl, by omega⟩⟩
          rw [w1, ws2]
          exact Ev.neg (by omega) (Ev.pos (by omega) (Ev.pos (by omega) (Ev.pos h4 (exp_done s p))))
        · refine ⟨2, p + 1, end_ok s b p m _ _ e1 (sign_bad s b ((p + 1 : Nat) : Int) m 10 (by omega) (by omega) (by omega) h4), S1 2 (exp_step s p 1 2 10 (by omega) (by omega) rd1 ?_), .inr (.inr rfl)⟩
          rw [w1]
          exact Ev.neg (by omega) (Ev.pos (by omega) (Ev.pos (by omega) (Ev.neg h4 (Ev.now _))))
    · refine ⟨2, p, end_bad s b p m 2 (by omega) (sign_bad s b p m 13 (by omega) (by omega) (by omega) h2), exp_0 s p 2 (exp_step s p 0 2 13 (by omega) (by omega) rd0 ?_), .inr (.inr rfl)⟩
      rw [w0]
      exact Ev.neg (by omega) (Ev.pos (by omega) (Ev.pos (by omega) (Ev.neg h2 (Ev.now _))))
theorem rc_bad {s : ByteArray} {a : Int} {b : ByteArray} {m : Int} {l : Bool} {c : Int} {s' : ByteArray} {q : Int} {b' : ByteArray} {m' : Int} (hc : ¬ c = 0) (hx : Ev (fun k => impl_chunks_piece.f k s a b m) (l, c, s', q, b', m')) : Ev (fun k => impl_ReadChunks.l0 k s a b m) (Bx, 0, c) := by
  refine Ev.step (fun k => rfl) ?_
  simp only [impl_ReadChunks.l0]
  exact Ev.bind hx (Ev.neg hc (Ev.now _))
theorem rc_done {s : ByteArray} {a : Int} {b : ByteArray} {m : Int} {s' : ByteArray} {q : Int} {b' : ByteArray} {m' : Int} (hx : Ev (fun k => impl_chunks_piece.f k s a b m) (true, 0, s', q, b', m')) : Ev (fun k => impl_ReadChunks.l0 k s a b m) (b', q, 0) := by
  refine Ev.step (fun k => rfl) ?_
  simp only [impl_ReadChunks.l0]
  exact Ev.bind hx (Ev.pos rfl (Ev.pos rfl (Ev.now _)))
theorem rc_more {s : ByteArray} {a : Int} {b : ByteArray} {m : Int} {s' : ByteArray} {q : Int} {b' : ByteArray} {m' : Int} {r : ByteArray × Int × Int} (hx : Ev (fun k => impl_chunks_piece.f k s a b m) (false, 0, s', q, b', m')) (hr : Ev (fun k => impl_ReadChunks.l0 k s' q b' m') r) : Ev (fun k => impl_ReadChunks.l0 k s a b m) r := by
  refine Ev.step (fun k => rfl) ?_
  simp only [impl_ReadChunks.l0]
  exact Ev.bind hx (Ev.pos rfl (Ev.neg Bool.false_ne_true hr))
theorem pc_size {s : ByteArray} {a : Int} {b : ByteArray} {m n c p : Int} (hc : ¬ c = 0) (h : Ev (fun k => impl_chunks_size.f k s a b m) (n, c, s, p, b, m)) : Ev (fun k => impl_chunks_piece.f k s a b m) (false, c, s, p, b, m) := by
  unfold impl_chunks_piece.f
  exact Ev.bind h (Ev.neg hc (Ev.now _))
theorem pc_bad {s : ByteArray} {a : Int} {b : ByteArray} {m n c p q : Int} (hc : ¬ c = 0) (h : Ev (fun k => impl_chunks_size.f k s a b m) (n, 0, s, p, b, m)) (h1 : impl_chunks_end.f s p b m = some (c, s, q, b, m)) : Ev (fun k => impl_chunks_piece.f k s a b m) (false, c, s, q, b, m) := by
  unfold impl_chunks_piece.f
  exact Ev.bind h (Ev.pos rfl (Ev.bnd h1 (Ev.neg hc (Ev.now _))))
theorem pc_short {s : ByteArray} {a : Int} {b : ByteArray} {m n p q : Int} (h : Ev (fun k => impl_chunks_size.f k s a b m) (n, 0, s, p, b, m)) (h1 : impl_chunks_end.f s p b m = some (0, s, q, b, m)) (h2 : wrap64 (q + n) > (s.size : Int)) : Ev (fun k => impl_chunks_piece.f k s a b m) (false, 1, s, q, b, m) := by
  unfold impl_chunks_piece.f
  exact Ev.bind h (Ev.pos rfl (Ev.bnd h1 (Ev.pos rfl (Ev.pos h2 (Ev.now _)))))
theorem pc_full {s : ByteArray} {a : Int} {b : ByteArray} {m n p : Int} {q e : Nat} {x : ByteArray} {m1 c' q' : Int} (h : Ev (fun k => impl_chunks_size.f k s a b m) (n, 0, s, p, b, m)) (h1 : impl_chunks_end.f s p b m = some (0, s, (q : Int), b, m))
    (he : wrap64 ((q : Int) + n) = (e : Int)) (h2 : q ≤ e) (h3 : e ≤ s.size) (hx : s.extract q e = x) (h4 : b.size + x.size ≤ 9223372036854775807) (hm : wrap64 (m + 1) = m1) (h5 : impl_chunks_end.f s e (b ++ x) m1 = some (c', s, q', b ++ x, m1)) : Ev (fun k => impl_chunks_piece.f k s a b m) ((n == 0), c', s, q', b ++ x, m1) := by
  unfold impl_chunks_piece.f
  refine Ev.bind h (Ev.pos rfl (Ev.bnd h1 (Ev.pos rfl ?_)))
  dsimp only
  rw [he, hm]
  refine Ev.neg (by omega) (Ev.pos (by omega) (Ev.pos (by omega) (Ev.pos (by omega) ?_)))
  simp only [Int.toNat_natCast]
  rw [hx]
  exact Ev.pos h4 (Ev.bnd h5 (Ev.now _))
theorem j5_bad {s b : ByteArray} {m p n c : Int} (hc : ¬ c = 0) (h : Ev (fun k => spec_l5Expect.f k s p) c) : Ev (fun k => spec_l5Chunks.j5 k s b m p n false) (Bx, 0, c) := by
  refine Ev.step (fun k => rfl) ?_
  simp only [spec_l5Chunks.j5]
  exact Ev.neg Bool.false_ne_true (Ev.bind h (Ev.neg hc (Ev.now _)))
theorem j5_short {s b : ByteArray} {m p n p2 : Int} (h : Ev (fun k => spec_l5Expect.f k s p) 0) (w2 : wrap64 (p + 2) = p2) (h1 : n > wrap64 ((s.size : Int) - p2)) : Ev (fun k => spec_l5Chunks.j5 k s b m p n false) (Bx, 0, 1) := by
  subst w2
  refine Ev.step (fun k => rfl) ?_
  simp only [spec_l5Chunks.j5]
  exact Ev.neg Bool.false_ne_true (Ev.bind h (Ev.pos rfl (Ev.pos h1 (Ev.now _))))
theorem j5_full {s b : ByteArray} {m p n : Int} {q e : Nat} {x : ByteArray} {e2 m1 c' : Int} {r : ByteArray × Int × Int} (h : Ev (fun k => spec_l5Expect.f k s p) 0) (w2 : wrap64 (p + 2) = (q : Int)) (h1 : ¬ n > wrap64 ((s.size : Int) - (q : Int)))
    (he : wrap64 ((q : Int) + n) = (e : Int)) (h2 : q ≤ e) (h3 : e ≤ s.size) (hx : s.extract q e = x) (h4 : b.size + x.size ≤ 9223372036854775807) (hm : wrap64 (m + 1) = m1) (he2 : wrap64 ((e : Int) + 2) = e2) (h5 : Ev (fun k => spec_l5Expect.f k s e) c')
    (hr : Ev (fun k => if c' = 0 then (if n = 0 then some (b ++ x, e2, (0 : Int)) else spec_l5Chunks.l0 k s (b ++ x) e2 m1) else some (Bx, 0, c')) r) : Ev (fun k => spec_l5Chunks.j5 k s b m p n false) r := by
  refine Ev.step (fun k => rfl) ?_
  simp only [spec_l5Chunks.j5]
  rw [w2, he, hm, he2]
  refine Ev.neg Bool.false_ne_true (Ev.bind h (Ev.pos rfl (Ev.neg h1 (Ev.pos (by omega) (Ev.pos (by omega) (Ev.pos (by omega) ?_))))))
  simp only [Int.toNat_natCast]
  rw [hx]
  exact Ev.pos h4 (Ev.bind h5 hr)
theorem sc_l1 {s b : ByteArray} {m a : Int} {r : ByteArray × Int × Int} (h : Ev (fun k => spec_l5Chunks.l1 k s b a m a) r) : Ev (fun k => spec_l5Chunks.l0 k s b a m) r := by
  refine Ev.step (fun k => rfl) ?_
  simp only [spec_l5Chunks.l0]
  exact h
end Go.Proofs.Ytoepojgolefgkaa.Q

/- All chunks: the reference's and the program's readings are one. No condition. -/
import Derived.Test.YtoepojgolefgkaaF3
import Derived.Test.YtoepojgolefgkaaF8
import Derived.Test.YtoepojgolefgkaaQChunk
namespace Go.Proofs.Ytoepojgolefgkaa.Q
open Go.RowKit Go.Proofs.Ytoepojgolefgkaa.F Go.Proofs.YtoepojgolefgkaaHw Go.Proofs.YtoepojgolefgkaaPl Go.Proofs.YtoepojgolefgkaaW.PrintWords
set_option linter.unusedVariables false
set_option linter.unusedSimpArgs false
set_option maxHeartbeats 1000000 in
/-- All chunks. -/
theorem chunks_eq (s : ByteArray) (hs : s.size ≤ 4611686018427387904) : ∀ (d : Nat) (b : ByteArray) (m a : Nat), s.size - a < d → a ≤ s.size → b.size ≤ 300 → m ≤ 60 → a ≤ b.size + 8 * m →
    ∃ (bd : ByteArray) (q : Nat) (c : Int), Ev (fun k => spec_l5Chunks.l0 k s b a m) (bd, (q : Int), c) ∧ Ev (fun k => impl_ReadChunks.l0 k s a b m) (bd, (q : Int), c) ∧
      (c = 0 ∧ bd.size ≤ 300 ∧ q ≤ s.size ∨ c = 1 ∧ s.size ≤ 1200 ∧ bd = Bx ∧ q = 0 ∨ c = 2 ∧ bd = Bx ∧ q = 0) := by
  intro d
  induction d with
  | zero => intro b m a h; omega
  | succ d ih =>
    intro b m a hd ha hb hm hab
    obtain ⟨n, code, p, p1, p2, e1, e2⟩ := scan s b m a hs hb 4 a (by omega) (Nat.le_refl _) ha (fun i i0 i1 => by omega)
    have e1' : Ev (fun k => impl_chunks_size.f k s a b m) (n, code, s, (p : Int), b, (m : Int)) := by
      unfold impl_chunks_size.f; exact e1
    rcases e2 with ⟨rfl, h1, h2, h3, h4, h5, h7, h6⟩ | ⟨rfl, h1, h2⟩ | ⟨rfl, h1⟩
    · obtain ⟨n, rfl⟩ : ∃ j : Nat, n = j := ⟨n.toNat, by omega⟩
      obtain ⟨c, q, f1, f2, f3⟩ := end_eq s b m p hs (by omega)
      have w2 := Aside0.mk (show wrap64 ((p : Int) + 2) = ((p + 2 : Nat) : Int) from by rw [wrap_id (by omega) (by omega)]; omega)
      rcases f3 with ⟨rfl, rfl, g1⟩ | ⟨rfl, g1⟩ | rfl
      · have wn := Aside0.mk (show wrap64 (((p + 2 : Nat) : Int) + (n : Int)) = ((p + 2 + n : Nat) : Int) from by rw [wrap_id (by omega) (by omega)]; omega)
        have wd := Aside0.mk (show wrap64 ((s.size : Int) - ((p + 2 : Nat) : Int)) = (s.size : Int) - ((p + 2 : Nat) : Int) from wrap_id (by omega) (by omega))
        have wm := Aside0.mk (show wrap64 ((m : Int) + 1) = ((m + 1 : Nat) : Int) from by rw [wrap_id (by omega) (by omega)]; omega)
        have w4 := Aside0.mk (show wrap64 (((p + 2 + n : Nat) : Int) + 2) = ((p + 2 + n + 2 : Nat) : Int) from by rw [wrap_id (by omega) (by omega)]; omega)
        by_cases g2 : (n : Int) > (s.size : Int) - ((p + 2 : Nat) : Int)
        · exact ⟨Bx, 0, 1, sc_l1 (h6 _ (j5_short f2 w2.out (by rw [wd.out]; exact g2))), rc_bad (by omega) (pc_short e1' f1 (by rw [wn.out]; omega)), .inr (.inl ⟨rfl, by omega, rfl, rfl⟩)⟩
        · have hxs : (s.extract (p + 2) (p + 2 + n)).size = n := by rw [extract_size s _ _ (by omega)]; omega
          generalize hxe : s.extract (p + 2) (p + 2 + n) = x at hxs
          obtain ⟨c', q', k1, k2, k3⟩ := end_eq s (b ++ x) ((m + 1 : Nat) : Int) (p + 2 + n) hs (by omega)
          have hbs : (b ++ x).size = b.size + n := by rw [ByteArray.size_append, hxs]
          have S6 := fun r => j5_full (r := r) (b := b) (x := x) (q := p + 2) (e := p + 2 + n) f2 w2.out (by rw [wd.out]; exact g2) wn.out (by omega) (by omega) hxe (by omega) wm.out w4.out k2
          have P6 := pc_full e1' f1 wn.out (by omega) (by omega) hxe (by omega) wm.out k1
          rcases k3 with ⟨rfl, rfl, g3⟩ | ⟨rfl, g3⟩ | rfl
          · by_cases g4 : n = 0
            · have z1 := S6 (b ++ x, ((p + 2 + n + 2 : Nat) : Int), 0) (Ev.pos rfl (Ev.pos (by omega) (Ev.now _)))
              rw [show ((n : Int) == 0) = true by simp [g4]] at P6
              exact ⟨b ++ x, p + 2 + n + 2, 0, sc_l1 (h6 _ z1), rc_done P6, .inl ⟨rfl, by omega, by omega⟩⟩
            · have hm60 : m ≠ 60 := fun e => h7 (by omega) (by omega)
              rw [show ((n : Int) == 0) = false by simp [g4]] at P6
              obtain ⟨bd, q2, c2, z1, z2, z3⟩ := ih (b ++ x) (m + 1) (p + 2 + n + 2) (by omega) (by omega) (by omega) (by omega) (by omega)
              have z4 := S6 _ (Ev.pos rfl (Ev.neg (by omega) z1))
              exact ⟨bd, q2, c2, sc_l1 (h6 _ z4), rc_more P6 z2, z3⟩
          · have z1 := S6 (Bx, 0, 1) (Ev.neg (by omega) (Ev.now _))
            exact ⟨Bx, 0, 1, sc_l1 (h6 _ z1), rc_bad (by omega) P6, .inr (.inl ⟨rfl, by omega, rfl, rfl⟩)⟩
          · have z1 := S6 (Bx, 0, 2) (Ev.neg (by omega) (Ev.now _))
            exact ⟨Bx, 0, 2, sc_l1 (h6 _ z1), rc_bad (by omega) P6, .inr (.inr ⟨rfl, rfl, rfl⟩)⟩
      · exact ⟨Bx, 0, 1, sc_l1 (h6 _ (j5_bad (by omega) f2)), rc_bad (by omega) (pc_bad (by omega) e1' f1), .inr (.inl ⟨rfl, by omega, rfl, rfl⟩)⟩
      · exact ⟨Bx, 0, 2, sc_l1 (h6 _ (j5_bad (by omega) f2)), rc_bad (by omega) (pc_bad (by omega) e1' f1), .inr (.inr ⟨rfl, rfl, rfl⟩)⟩
    · exact ⟨Bx, 0, 1, sc_l1 h2, rc_bad (by omega) (pc_size (by omega) e1'), .inr (.inl ⟨rfl, by omega, rfl, rfl⟩)⟩
    · exact ⟨Bx, 0, 2, sc_l1 h1, rc_bad (by omega) (pc_size (by omega) e1'), .inr (.inr ⟨rfl, rfl, rfl⟩)⟩
/-- What both read. -/
theorem read_eq (s : ByteArray) (hs : s.size ≤ 4611686018427387904) :
    ∃ (bd : ByteArray) (q : Nat) (c : Int), Ev (fun k => spec_l5Chunks.f k s) (bd, (q : Int), c) ∧ Ev (fun k => impl_ReadChunks.f k s) (bd, (q : Int), c) ∧
      (c = 0 ∧ bd.size ≤ 300 ∧ q ≤ s.size ∨ c = 1 ∧ s.size ≤ 1200 ∧ bd = Bx ∧ q = 0 ∨ c = 2 ∧ bd = Bx ∧ q = 0) := by
  obtain ⟨bd, q, c, h1, h2, h3⟩ := chunks_eq s hs (s.size + 1) Bx 0 0 (by omega) (by omega) (by decide) (by omega) (by omega)
  exact ⟨bd, q, c, by unfold spec_l5Chunks.f; exact h1, by unfold impl_ReadChunks.f; exact h2, h3⟩
end Go.Proofs.Ytoepojgolefgkaa.Q

/- The pure statement of FnExactFeedUnchunk. No condition. -/
import Derived.Test.YtoepojgolefgkaaF9
import Derived.Test.YtoepojgolefgkaaQUnchunk
namespace Go.Proofs.Ytoepojgolefgkaa.Pure
set_option linter.unusedVariables false
set_option linter.unusedSimpArgs false
open Go.RowKit Go.Proofs.Ytoepojgolefgkaa.F Go.Proofs.Ytoepojgolefgkaa.Q Go.Proofs.YtoepojgolefgkaaHw Go.Proofs.YtoepojgolefgkaaPl Go.Proofs.YtoepojgolefgkaaW.PrintWords
set_option linter.unusedVariables false
theorem eq_unchunk (b r : ByteArray) (d w : Bool) : laws_eqUnchunk.f b r d w b r d w = some true := by
  unfold laws_eqUnchunk.f
  rw [if_pos rfl, if_pos rfl]
  simp
/-- What is fed. -/
theorem feed_eq (r s : ByteArray) (hr : r.size ≤ 1200) (hs : s.size ≤ 2000) : ∃ (b' r' : ByteArray) (d' w' : Bool),
    (∀ b d w, Ev (fun k => spec_l5Feed.f k b r d w s) (b', r', d', w')) ∧ (∀ b d w, Ev (fun k => impl_fed.f k b r d w s) (b', r', d', w')) ∧ Ev (fun k => spec_GoodUnchunk.f k b' r' d' w') true := by
  have hz : (r ++ s).size = r.size + s.size := ByteArray.size_append
  obtain ⟨bd, q, c, k1, k2, k3⟩ := read_eq (r ++ s) (by omega)
  unfold spec_l5Feed.f impl_fed.f
  rcases k3 with ⟨rfl, h1, h2⟩ | ⟨rfl, h1, rfl, rfl⟩ | ⟨rfl, rfl, rfl⟩
  · refine ⟨bd, (r ++ s).extract (q : Int).toNat (r.size + s.size), true, false, fun _ _ _ => Ev.pos (by omega) (Ev.bind k1 (Ev.pos rfl (Ev.pos (by dsimp only; omega) (Ev.pos (by dsimp only; omega) (Ev.now _))))), fun _ _ _ => Ev.pos (by omega) (Ev.bind k2 (Ev.pos rfl (Ev.pos (by dsimp only; omega) (Ev.pos (by dsimp only; omega) (Ev.now _))))), ?_⟩
    unfold spec_GoodUnchunk.f
    have hx : ((r ++ s).extract (q : Int).toNat (r.size + s.size)).size ≤ 3200 := by rw [ByteArray.size_extract]; omega
    exact Ev.neg (by omega) (Ev.neg (by decide) (Ev.eq (Ev.pos rfl (Ev.now _)) (decide_eq_true (by omega))))
  · refine ⟨Bx, r ++ s, false, false, fun _ _ _ => Ev.pos (by omega) (Ev.bind k1 (Ev.neg (by decide) (Ev.neg (by decide) (Ev.now _)))), fun _ _ _ => Ev.pos (by omega) (Ev.bind k2 (Ev.neg (by decide) (Ev.neg (by decide) (Ev.now _)))), ?_⟩
    unfold spec_GoodUnchunk.f
    exact Ev.neg (by omega) (Ev.neg (by decide) (Ev.neg (by decide) (Ev.bind k1 (Ev.eq (Ev.pos (toList_nil.2 rfl) (Ev.now _)) rfl))))
  · refine ⟨Bx, Bx, false, true, fun _ _ _ => Ev.pos (by omega) (Ev.bind k1 (Ev.neg (by decide) (Ev.pos rfl (Ev.now _)))), fun _ _ _ => Ev.pos (by omega) (Ev.bind k2 (Ev.neg (by decide) (Ev.pos rfl (Ev.now _)))), ?_⟩
    unfold spec_GoodUnchunk.f
    exact Ev.neg (by decide) (Ev.pos rfl (Ev.neg (by decide) (Ev.eq (Ev.pos (toList_nil.2 rfl) (Ev.now _)) (by rw [nil_beq]; rfl))))
theorem FnExactFeedUnchunk : laws_FnExactFeedUnchunk.Pure := by
  intro b r d w s hb hr hs
  apply Ev.rounds
  unfold laws_FnExactFeedUnchunk.f laws_toUnchunk.f
  by_cases hs0 : (s.size : Int) > 1048576
  · exact Ev.pos hs0 (Ev.now _)
  refine Ev.neg hs0 ?_
  obtain ⟨t, e, ht⟩ := sz_unchunk b r d w hb hr
  refine Ev.bnd e ?_
  by_cases h0 : t < 0
  · exact Ev.pos h0 (Ev.now _)
  · have hz := ht h0
    obtain ⟨g, g1, g2, g3⟩ := good_eq b r d w (by omega)
    have main : ∃ (b' r' : ByteArray) (d' w' o : Bool), Ev (fun k => spec_FeedUnchunk.f k b r d w s) (b', r', d', w', o) ∧ Ev (fun k => impl_FeedUnchunk.f k b r d w s) (b', r', d', w', o) := by
      have bad : Ev (fun k => spec_FeedUnchunk.j0 k s true b r d w) (Bx, Bx, false, false, false) := by
        refine Ev.step (fun k => rfl) ?_
        simp only [spec_FeedUnchunk.j0]
        exact Ev.pos (by trivial) (Ev.now _)
      unfold spec_FeedUnchunk.f impl_FeedUnchunk.f
      cases g with
      | false => exact ⟨Bx, Bx, false, false, false, Ev.bind g1 (Ev.neg (by decide) bad), Ev.bind g2 (Ev.neg (by decide) (Ev.now _))⟩
      | true =>
        cases d with
        | true => exact ⟨Bx, Bx, false, false, false, Ev.bind g1 (Ev.pos rfl (Ev.pos rfl bad)), Ev.bind g2 (Ev.pos rfl (Ev.pos rfl (Ev.now _)))⟩
        | false =>
          cases w with
          | true => exact ⟨Bx, Bx, false, false, false, Ev.bind g1 (Ev.pos rfl (Ev.neg (by decide) (Ev.pos rfl bad))), Ev.bind g2 (Ev.pos rfl (Ev.neg (by decide) (Ev.pos rfl (Ev.now _))))⟩
          | false =>
            by_cases hl : (s.size : Int) > 2000
            · rw [decide_eq_true hl]
              exact ⟨Bx, Bx, false, false, false, Ev.bind g1 (Ev.pos rfl (Ev.neg (by decide) (Ev.neg (by decide) bad))), Ev.bind g2 (Ev.pos rfl (Ev.neg (by decide) (Ev.neg (by decide) (Ev.pos hl (Ev.now _)))))⟩
            · rw [decide_eq_false hl]
              obtain ⟨b', r', d', w', f1, f2, f3⟩ := feed_eq r s (g3 rfl rfl rfl) (by omega)
              refine ⟨b', r', d', w', true, Ev.bind g1 (Ev.pos rfl (Ev.neg (by decide) (Ev.neg (by decide) ?_))), Ev.bind g2 (Ev.pos rfl (Ev.neg (by decide) (Ev.neg (by decide) (Ev.neg hl (Ev.bind (f2 _ _ _) (Ev.now _))))))⟩
              refine Ev.step (fun k => rfl) ?_
              simp only [spec_FeedUnchunk.j0]
              exact Ev.neg (by decide) (Ev.bind (f1 _ _ _) (Ev.bind f3 (Ev.pos rfl (Ev.now _))))
    obtain ⟨b', r', d', w', o, m1, m2⟩ := main
    refine Ev.neg h0 (Ev.bnd rfl (Ev.bind m1 (Ev.bnd rfl (Ev.bind m2 (Ev.bnd (eq_unchunk b' r' d' w') (Ev.pos rfl (Ev.neg (by simp) (Ev.now _))))))))
end Go.Proofs.Ytoepojgolefgkaa.Pure

/- Dots of a path: the reference's and the program's ways drop alike. No condition. -/
import Derived.Test.YtehflacblgliiaaDoorF2
import Derived.Test.YtehflacblgliiaaDoorF3
import Derived.Test.YtehflacblgliiaaDoorQCut
namespace Go.Proofs.YtehflacblgliiaaDoor.Q
set_option linter.unusedVariables false
set_option linter.unusedSimpArgs false
open Go.RowKit Go.Proofs.YtehflacblgliiaaDoor.F Go.Proofs.YtehflacblgliiaaDoorHw Go.Proofs.YtehflacblgliiaaDoorPl Go.Proofs.YtehflacblgliiaaDoorW.PrintWords
abbrev Slash : ByteArray := ⟨#[47]⟩
def parted (s : ByteArray) : List ByteArray := Lib.splitB Slash 0 (Lib.countB s Slash) s
theorem parted_hit (s : ByteArray) (i : Nat) (h : Lib.indexB s Slash = i) : parted s = s.extract 0 i :: parted (s.extract (i + 1) s.size) := by
  unfold parted
  have h1 : (1 : Nat) ≤ Slash.size := Nat.le_refl 1
  rw [Lib.countB_hit s Slash i h1 h, Nat.add_comm 1, Lib.splitB_hit Slash 0 _ s i h]
  rfl
theorem parted_miss (s : ByteArray) (h : Lib.indexB s Slash = -1) : parted s = [s] := by
  unfold parted
  exact Lib.splitB_miss Slash 0 _ s h
/-- The parts' text, each behind a slash. -/
def slashed (ps : List ByteArray) : List UInt8 := Lib.joinTail [47] (ps.map (·.data.toList))
theorem slashed_append (ps : List ByteArray) (p : ByteArray) : slashed (ps ++ [p]) = slashed ps ++ 47 :: p.data.toList := by
  unfold slashed Lib.joinTail
  simp
theorem slashed_len (ps : List ByteArray) (p : ByteArray) : (slashed (ps ++ [p])).length = (slashed ps).length + 1 + p.size := by
  rw [slashed_append, List.length_append, List.length_cons]
  have : p.data.toList.length = p.size := Array.length_toList
  omega
theorem slashed_ge : ∀ (ps : List ByteArray), ps.length ≤ (slashed ps).length
  | [] => Nat.zero_le _
  | p :: ps => by
    have := slashed_ge ps
    unfold slashed Lib.joinTail at *
    simp only [List.map_cons, List.flatten_cons, List.length_append, List.length_cons]
    omega
theorem slashed_take (ps : List ByteArray) (n : Nat) : (slashed (ps.take n)).length ≤ (slashed ps).length := by
  unfold slashed
  rw [List.map_take]
  exact Lib.joinTail_take_le _ _ _
def textOf (l : List UInt8) : ByteArray := ⟨l.toArray⟩
theorem textOf_size (l : List UInt8) : (textOf l).size = l.length := by
  show l.toArray.size = l.length
  rw [List.size_toArray]
theorem textOf_append (a b : List UInt8) : textOf (a ++ b) = textOf a ++ textOf b := by
  apply ByteArray.ext
  simp [textOf, ByteArray.data_append]
theorem textOf_data (s : ByteArray) : textOf s.data.toList = s := by
  apply ByteArray.ext
  simp [textOf]
theorem join_slash (ps : List ByteArray) (h : ps ≠ []) : (⟨#[47]⟩ : ByteArray) ++ (⟨(Lib.join (ps.map (·.data.toList)) [47]).toArray⟩ : ByteArray) = textOf (slashed ps) := by
  cases ps with
  | nil => exact absurd rfl h
  | cons p ps =>
    unfold slashed
    rw [List.map_cons, Lib.join_cons]
    have : Lib.joinTail [47] (p.data.toList :: ps.map (·.data.toList)) = [47] ++ (p.data.toList ++ Lib.joinTail [47] (ps.map (·.data.toList))) := by
      unfold Lib.joinTail
      simp
    rw [this, textOf_append]
    rfl
theorem join_len (ps : List ByteArray) (h : ps ≠ []) : (Lib.join (ps.map (·.data.toList)) [47]).length + 1 = (slashed ps).length := by
  have := congrArg ByteArray.size (join_slash ps h)
  rw [ByteArray.size_append, textOf_size] at this
  have e1 : (⟨#[47]⟩ : ByteArray).size = 1 := rfl
  have e2 : (⟨(Lib.join (ps.map (·.data.toList)) [47]).toArray⟩ : ByteArray).size = (Lib.join (ps.map (·.data.toList)) [47]).length := textOf_size _
  omega
/-- What a part does to the parts ahead of it. -/
def upd (ps : List ByteArray) (p : ByteArray) : List ByteArray := if p.toList = ([46] : List UInt8) then ps else if p.toList = ([46, 46] : List UInt8) then ps.take (ps.length - 1) else ps ++ [p]
def dotted (p : ByteArray) : Prop := p.toList = ([46] : List UInt8) ∨ p.toList = ([46, 46] : List UInt8)
instance (p : ByteArray) : Decidable (dotted p) := by unfold dotted; infer_instance
theorem upd_len (ps : List ByteArray) (p : ByteArray) : (slashed (upd ps p)).length ≤ (slashed ps).length + 1 + p.size := by
  unfold upd
  split
  · omega
  · split
    · have := slashed_take ps (ps.length - 1); omega
    · rw [slashed_len]; omega
theorem wrap_pred (n : Nat) (h : n ≤ 9223372036854775807) : wrap64 ((n : Int) - 1) = (n : Int) - 1 := wrap_id (by omega) (by omega)
/-- A step of the reference. -/
theorem dots_spec (ps : List ByteArray) (s part more : ByteArray) (ok : Bool) (hl : ps.length < 8796093022208) (hcut : Ev (fun k => spec_l1Cut.f k s 47) (part, more, ok)) (r : ByteArray)
    (h : Ev (fun k => if ok = true then spec_l1Dots.l0 k (upd ps part) more else spec_l1Dots.j1 k (upd ps part) part) r) : Ev (fun k => spec_l1Dots.l0 k ps s) r := by
  refine Ev.step (fun k => rfl) ?_
  simp only [spec_l1Dots.l0]
  refine Ev.bind hcut ?_
  unfold upd at h
  by_cases h1 : part.toList = ([46] : List UInt8)
  · simp only [if_pos h1] at h
    exact Ev.pos h1 h
  · simp only [if_neg h1] at h
    refine Ev.neg h1 ?_
    by_cases h2 : part.toList = ([46, 46] : List UInt8)
    · simp only [if_pos h2] at h
      refine Ev.pos h2 ?_
      by_cases h3 : (ps.length : Int) > 0
      · rw [wrap_pred _ (by omega)]
        refine Ev.pos h3 (Ev.pos (by omega) (Ev.pos (by omega) (Ev.bnd rfl ?_)))
        rw [show ((ps.length : Int) - 1).toNat = ps.length - 1 by omega]
        exact h
      · have : ps = [] := List.eq_nil_of_length_eq_zero (by omega)
        subst this
        exact Ev.neg h3 h
    · simp only [if_neg h2] at h
      exact Ev.neg h2 (Ev.pos hl (Ev.bnd rfl h))
/-- A step of the program. -/
theorem dots_impl (ps T : List ByteArray) (x : Nat) (part : ByteArray) (hT : T.length < 8796093022208) (hx : T[x]? = some part) (hl : ps.length < 8796093022207) (r : ByteArray)
    (h : Ev (fun k => impl_dropDots.l0 k (if dotted part ∧ x + 1 = T.length then upd ps part ++ [⟨#[]⟩] else upd ps part) T T (T.length : Int) ((x + 1 : Nat) : Int)) r) : Ev (fun k => impl_dropDots.l0 k ps T T (T.length : Int) (x : Int)) r := by
  have hlt : x < T.length := (List.getElem?_eq_some_iff.1 hx).1
  have hrd : rdOf ByteArray.empty T (x : Int) = part := by
    unfold rdOf
    rw [Int.toNat_natCast, List.getD_eq_getElem?_getD, hx]
    rfl
  have hlast : ((x : Int) == wrap64 ((T.length : Int) - 1)) = decide (x + 1 = T.length) := by
    rw [wrap_pred _ (by omega), Bool.eq_iff_iff, beq_iff_eq, decide_eq_true_iff]
    omega
  have hw : wrap64 ((x : Int) + 1) = ((x + 1 : Nat) : Int) := wrap_succ hlt (by omega)
  refine Ev.step (fun k => rfl) ?_
  simp only [impl_dropDots.l0]
  rw [hrd, hlast]
  refine Ev.pos (by omega) (Ev.pos (by omega) (Ev.pos (by omega) ?_))
  -- dots with the last mark
  have D2 : ∀ (qs : List ByteArray), qs.length < 8796093022208 → ∀ f, (f = false → qs = ps) → (f = true → qs = ps.take (ps.length - 1) ∧ 0 < ps.length) →
      Ev (fun k => impl_dropDots.l0 k (if x + 1 = T.length then qs ++ [⟨#[]⟩] else qs) T T (T.length : Int) ((x + 1 : Nat) : Int)) r → Ev (fun k => impl_dropDots.j2 k ps T (decide (x + 1 = T.length)) T (T.length : Int) (x : Int) f) r := fun qs hq f hf0 hf1 hr => by
    refine Ev.step (fun k => rfl) ?_
    simp only [impl_dropDots.j2]
    rw [hw]
    cases f with
    | true =>
      obtain ⟨e, hpos⟩ := hf1 rfl
      rw [wrap_pred _ (by omega)]
      refine Ev.pos (by trivial) (Ev.pos (by omega) (Ev.pos (by omega) (Ev.bnd rfl ?_)))
      rw [show ((ps.length : Int) - 1).toNat = ps.length - 1 by omega, ← e]
      by_cases hL : x + 1 = T.length
      · simp only [if_pos hL] at hr
        exact Ev.pos (decide_eq_true hL) (Ev.pos hq hr)
      · simp only [if_neg hL] at hr
        exact Ev.neg (by simpa using hL) hr
    | false =>
      obtain rfl := hf0 rfl
      refine Ev.neg (by decide) ?_
      by_cases hL : x + 1 = T.length
      · simp only [if_pos hL] at hr
        exact Ev.pos (decide_eq_true hL) (Ev.pos hq hr)
      · simp only [if_neg hL] at hr
        exact Ev.neg (by simpa using hL) hr
  by_cases h1 : part.toList = ([46] : List UInt8)
  · refine Ev.pos h1 ?_
    rw [show (part.toList == ([46] : List UInt8)) = true from beq_iff_eq.mpr h1]
    have hn : ¬ part.toList = ([46, 46] : List UInt8) := fun e => by rw [h1] at e; cases e
    refine Ev.step (fun k => rfl) ?_
    simp only [impl_dropDots.j1]
    refine Ev.pos (by trivial) (Ev.neg hn (D2 ps (by omega) false (fun _ => rfl) (fun h => by cases h) ?_))
    have hu : upd ps part = ps := if_pos h1
    rw [hu] at h
    have hd : dotted part := .inl h1
    by_cases hL : x + 1 = T.length
    · simp only [if_pos hL]; simp only [if_pos (And.intro hd hL)] at h; exact h
    · simp only [if_neg hL]; simp only [if_neg (fun h : dotted part ∧ x + 1 = T.length => hL h.2)] at h; exact h
  · refine Ev.neg h1 ?_
    by_cases h2 : part.toList = ([46, 46] : List UInt8)
    · rw [show (part.toList == ([46, 46] : List UInt8)) = true from beq_iff_eq.mpr h2]
      refine Ev.step (fun k => rfl) ?_
      simp only [impl_dropDots.j1]
      refine Ev.pos (by trivial) (Ev.pos h2 (D2 (ps.take (ps.length - 1)) (by rw [List.length_take]; omega) _ (fun hf => ?_) (fun hf => ⟨rfl, by have := of_decide_eq_true hf; omega⟩) ?_))
      · have : ps = [] := List.eq_nil_of_length_eq_zero (by have := of_decide_eq_false hf; omega)
        subst this; rfl
      have hu : upd ps part = ps.take (ps.length - 1) := (if_neg h1).trans (if_pos h2)
      rw [hu] at h
      have hd : dotted part := .inr h2
      by_cases hL : x + 1 = T.length
      · simp only [if_pos hL]; simp only [if_pos (And.intro hd hL)] at h; exact h
      · simp only [if_neg hL]; simp only [if_neg (fun h : dotted part ∧ x + 1 = T.length => hL h.2)] at h; exact h
    · rw [show (part.toList == ([46, 46] : List UInt8)) = false from beq_eq_false_iff_ne.mpr h2]
      refine Ev.step (fun k => rfl) ?_
      simp only [impl_dropDots.j1]
      have hu : upd ps part = ps ++ [part] := (if_neg h1).trans (if_neg h2)
      rw [hu] at h
      have hd : ¬ dotted part := fun hd => hd.elim h1 h2
      simp only [if_neg (fun h : dotted part ∧ x + 1 = T.length => hd h.1)] at h
      rw [hw]
      exact Ev.neg (by decide) (Ev.pos (by omega) h)
/-- The reference's text of the parts. -/
theorem out_spec (last : ByteArray) (ps : List ByteArray) (hb : (slashed ps).length ≤ 9000000000000000000) (hl : ps.length ≤ 8796093022208) :
    Ev (fun k => spec_l1Dots.j1 k ps last) (if slashed ps = [] ∨ dotted last then textOf (slashed ps ++ [47]) else textOf (slashed ps)) := by
  refine Ev.step (fun k => rfl) ?_
  simp only [spec_l1Dots.j1]
  obtain ⟨R, hR⟩ : ∃ R, R = (if slashed ps = [] ∨ dotted last then textOf (slashed ps ++ [47]) else textOf (slashed ps)) := ⟨_, rfl⟩
  rw [← hR]
  have main : ∀ (d x : Nat), x + d = ps.length → Ev (fun k => spec_l1Dots.l1 k last (textOf (slashed (ps.take x))) ps (ps.length : Int) (x : Int)) R := by
    intro d
    induction d with
    | zero =>
      intro x hx
      obtain rfl : x = ps.length := by omega
      rw [List.take_length]
      refine Ev.step (fun k => rfl) ?_
      simp only [spec_l1Dots.l1]
      refine Ev.neg (by omega) ?_
      have hz : (textOf (slashed ps)).size + 1 ≤ 9223372036854775807 := by rw [textOf_size]; omega
      have hap : textOf (slashed ps) ++ (⟨#[47]⟩ : ByteArray) = textOf (slashed ps ++ [47]) := by rw [textOf_append]; rfl
      have htl : (textOf (slashed ps)).toList = slashed ps := by rw [ByteArray.toList_eq]; rfl
      rw [hap]
      by_cases h0 : slashed ps = []
      · rw [hR.trans (if_pos (.inl h0))]
        exact Ev.pos (htl.trans h0) (Ev.pos hz (Ev.now _))
      · refine Ev.neg (fun e => h0 (htl.symm.trans e)) ?_
        by_cases h1 : last.toList = ([46] : List UInt8)
        · rw [hR.trans (if_pos (.inr (.inl h1)))]
          exact Ev.pos h1 (Ev.pos hz (Ev.now _))
        · refine Ev.neg h1 ?_
          by_cases h2 : last.toList = ([46, 46] : List UInt8)
          · rw [hR.trans (if_pos (.inr (.inr h2)))]
            exact Ev.pos h2 (Ev.pos hz (Ev.now _))
          · rw [hR.trans (if_neg (fun h => h.elim h0 (fun h => h.elim h1 h2)))]
            exact Ev.neg h2 (Ev.now _)
    | succ d ih =>
      intro x hx
      have hlt : x < ps.length := by omega
      have hrd : rdOf ByteArray.empty ps (x : Int) = ps[x] := by
        unfold rdOf
        rw [Int.toNat_natCast, List.getD_eq_getElem?_getD, List.getElem?_eq_getElem hlt]
        rfl
      have htk : ps.take (x + 1) = ps.take x ++ [ps[x]] := by rw [List.take_add_one, List.getElem?_eq_getElem hlt]; rfl
      have hsl := slashed_len (ps.take x) ps[x]
      rw [← htk] at hsl
      have hle := slashed_take ps (x + 1)
      refine Ev.step (fun k => rfl) ?_
      simp only [spec_l1Dots.l1]
      rw [hrd, wrap_succ hlt (by omega)]
      have hcat : textOf (slashed (ps.take x)) ++ ((⟨#[47]⟩ : ByteArray) ++ ps[x]) = textOf (slashed (ps.take (x + 1))) := by
        rw [htk, slashed_append, textOf_append]
        have e47 : textOf (47 :: ps[x].data.toList) = (⟨#[47]⟩ : ByteArray) ++ ps[x] := by
          show textOf ([47] ++ ps[x].data.toList) = _
          rw [textOf_append, textOf_data]
          rfl
        rw [e47]
      have z1 : (⟨#[47]⟩ : ByteArray).size = 1 := rfl
      rw [hcat]
      refine Ev.pos (by omega) (Ev.pos (by omega) (Ev.pos (by omega) (Ev.pos (by omega) (Ev.pos ?_ (ih (x + 1) (by omega))))))
      rw [textOf_size, ByteArray.size_append, z1]
      omega
  have := main ps.length 0 (by omega)
  exact this
/-- The program's text of the parts. -/
theorem out_impl (T ps : List ByteArray) (h : ps ≠ []) (hb : (slashed ps).length ≤ 140737488355328) : Ev (fun k => impl_dropDots.l0 k ps T T (T.length : Int) (T.length : Int)) (textOf (slashed ps)) := by
  refine Ev.step (fun k => rfl) ?_
  simp only [impl_dropDots.l0]
  refine Ev.neg (by omega) (Ev.bnd (a := (⟨(Lib.join (ps.map (·.data.toList)) [47]).toArray⟩ : ByteArray)) ?_ (Ev.pos ?_ (Ev.eq (Ev.now _) (join_slash ps h))))
  · unfold strings_Join.f
    have h1 := slashed_ge ps
    have h2 := join_len ps h
    exact if_pos ⟨by omega, by show (Lib.join (ps.map (·.data.toList)) [47]).length ≤ _; omega⟩
  · have h2 := join_len ps h
    have : (⟨(Lib.join (ps.map (·.data.toList)) [47]).toArray⟩ : ByteArray).size = (Lib.join (ps.map (·.data.toList)) [47]).length := textOf_size _
    rw [this]
    omega
/-- All parts. -/
theorem dots_all (T : List ByteArray) (hT : T.length ≤ 4194304) : ∀ (d : Nat) (s : ByteArray) (ps : List ByteArray) (x : Nat), s.size < d → (slashed ps).length + s.size ≤ 4194304 → T.drop x = parted s →
    ∃ r : ByteArray, Ev (fun k => spec_l1Dots.l0 k ps s) r ∧ Ev (fun k => impl_dropDots.l0 k ps T T (T.length : Int) (x : Int)) r ∧ r.size ≤ (slashed ps).length + s.size + 2 := by
  intro d
  induction d with
  | zero => intro s ps x h; omega
  | succ d ih =>
    intro s ps x hd hb hdr
    have hps := slashed_ge ps
    have h47 : ((47 : UInt8).toNat : Int) = 47 := rfl
    rcases first_place s 47 with ⟨i, hi, h1, h2, h3, _⟩ | ⟨h2, h3, _⟩
    · rw [parted_hit s i h3] at hdr
      have hx : T[x]? = some (s.extract 0 i) := by rw [← List.head?_drop, hdr]; rfl
      have hdr' : T.drop (x + 1) = parted (s.extract (i + 1) s.size) := by rw [← List.tail_drop, hdr]; rfl
      have hne : parted (s.extract (i + 1) s.size) ≠ [] := by
        rcases first_place (s.extract (i + 1) s.size) 47 with ⟨j, _, _, _, h, _⟩ | ⟨_, h, _⟩
        · rw [parted_hit _ j h]; exact List.cons_ne_nil _ _
        · rw [parted_miss _ h]; exact List.cons_ne_nil _ _
      have hlen : x + 1 < T.length := by
        have : (T.drop (x + 1)).length ≠ 0 := by rw [hdr']; exact fun e => hne (List.eq_nil_of_length_eq_zero e)
        rw [List.length_drop] at this
        omega
      have z1 : (s.extract 0 i).size = i := by rw [extract_size s 0 i (by omega)]; omega
      have z2 : (s.extract (i + 1) s.size).size = s.size - (i + 1) := extract_size s _ _ (Nat.le_refl _)
      have hu := upd_len ps (s.extract 0 i)
      obtain ⟨r, r1, r2, r3⟩ := ih (s.extract (i + 1) s.size) (upd ps (s.extract 0 i)) (x + 1) (by omega) (by omega) hdr'
      refine ⟨r, dots_spec ps s _ _ true (by omega) (l1cut_hit s 47 i (by omega) hi (h1.trans h47) (fun j hj => h47 ▸ h2 j hj)) r (Ev.pos rfl r1), dots_impl ps T x _ (by omega) hx (by omega) r ?_, by omega⟩
      simp only [if_neg (fun h : dotted (s.extract 0 i) ∧ x + 1 = T.length => absurd h.2 (by omega))]
      exact r2
    · rw [parted_miss s h3] at hdr
      have hx : T[x]? = some s := by rw [← List.head?_drop, hdr]; rfl
      have hlen : x + 1 = T.length := by
        have := congrArg List.length hdr
        rw [List.length_drop] at this
        have h4 : [s].length = 1 := rfl
        have := (List.getElem?_eq_some_iff.1 hx).1
        omega
      have hu := upd_len ps s
      have hup := slashed_ge (upd ps s)
      have hs := out_spec s (upd ps s) (by omega) (by omega)
      have hsp := fun r => dots_spec ps s s ⟨#[]⟩ false (by omega) (l1cut_miss s 47 (by omega) (fun j hj => h47 ▸ h2 j hj)) r
      have him := fun r => dots_impl ps T x s (by omega) hx (by omega) r
      by_cases hd : dotted s
      · rw [if_pos (.inr hd)] at hs
        refine ⟨_, hsp _ (Ev.neg (by decide) hs), him _ ?_, ?_⟩
        · rw [if_pos (And.intro hd hlen)]
          have hlast := slashed_append (upd ps s) ⟨#[]⟩
          have hl2 := slashed_len (upd ps s) ⟨#[]⟩
          have z0 : (⟨#[]⟩ : ByteArray).size = 0 := rfl
          have e := out_impl T (upd ps s ++ [⟨#[]⟩]) (by simp) (by omega)
          rw [hlast] at e
          rw [hlen]
          exact e
        · rw [textOf_size, List.length_append]
          have : [(47 : UInt8)].length = 1 := rfl
          have hun : (slashed (upd ps s)).length ≤ (slashed ps).length := by
            unfold upd
            rcases hd with h | h
            · rw [if_pos h]; exact Nat.le_refl _
            · have hn : ¬ s.toList = ([46] : List UInt8) := fun e => by rw [h] at e; cases e
              rw [if_neg hn, if_pos h]; exact slashed_take ps _
          omega
      · have hup2 : upd ps s = ps ++ [s] := by
          unfold upd
          rw [if_neg (fun h => hd (.inl h)), if_neg (fun h => hd (.inr h))]
        have hne : slashed (upd ps s) ≠ [] := by
          rw [hup2, slashed_append]
          simp
        rw [if_neg (fun h => h.elim hne hd)] at hs
        refine ⟨_, hsp _ (Ev.neg (by decide) hs), him _ ?_, by rw [textOf_size]; omega⟩
        rw [if_neg (fun h : dotted s ∧ x + 1 = T.length => hd h.1), hlen]
        exact out_impl T (upd ps s) (by rw [hup2]; simp) (by omega)
/-- Dots dropped. -/
theorem dots_eq (s : ByteArray) (h1 : 1 ≤ s.size) (hs : s.size ≤ 2097152) : ∃ r : ByteArray, Ev (fun k => spec_l1Dots.f k s) r ∧ Ev (fun k => impl_dropDots.f k s) r ∧ r.size ≤ s.size + 1 := by
  unfold spec_l1Dots.f impl_dropDots.f
  have z : (s.extract 1 s.size).size = s.size - 1 := extract_size s 1 s.size (Nat.le_refl _)
  have hc := Lib.countB_le Slash (Nat.le_refl 1) _ (s.extract 1 s.size) (Nat.le_refl _)
  have hlen : (parted (s.extract 1 s.size)).length = Lib.countB (s.extract 1 s.size) Slash + 1 := Lib.splitB_all Slash (Nat.le_refl 1) 0 _ _ rfl
  have z1 : Slash.size = 1 := rfl
  obtain ⟨r, r1, r2, r3⟩ := dots_all (parted (s.extract 1 s.size)) (by rw [hlen]; omega) (s.size + 1) (s.extract 1 s.size) [] 0 (by omega) (by show 0 + _ ≤ _; omega) rfl
  refine ⟨r, Ev.pos (by omega) r1, Ev.pos (by omega) (Ev.bnd (a := parted (s.extract 1 s.size)) ?_ r2), ?_⟩
  · unfold strings_Split.f
    exact if_pos ⟨by omega, Nat.le_refl 1, hlen, by show Lib.countB (s.extract 1 s.size) Slash + 1 ≤ _; omega⟩
  · have : (slashed ([] : List ByteArray)).length = 0 := rfl
    omega
end Go.Proofs.YtehflacblgliiaaDoor.Q

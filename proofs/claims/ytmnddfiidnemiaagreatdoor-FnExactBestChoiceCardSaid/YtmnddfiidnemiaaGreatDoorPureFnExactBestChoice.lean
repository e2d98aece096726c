/- The pure statement of FnExactBestChoice: the best offer is told alike. No condition. -/
import Derived.Test.YtmnddfiidnemiaaGreatDoorF3
import Derived.Test.YtmnddfiidnemiaaGreatDoorQChoices
import Derived.Test.YtmnddfiidnemiaaGreatDoorQStrs
namespace Go.Proofs.YtmnddfiidnemiaaGreatDoor.Pure
set_option linter.unusedVariables false
set_option linter.unusedSimpArgs false
open Go.RowKit Go.Proofs.YtmnddfiidnemiaaGreatDoor.F Go.Proofs.YtmnddfiidnemiaaGreatDoor.Q Go.Proofs.YtmnddfiidnemiaaGreatDoorHw Go.Proofs.YtmnddfiidnemiaaGreatDoorPl Go.Proofs.YtmnddfiidnemiaaGreatDoorW.PrintWords
theorem eq_strings (l : List ByteArray) (hl : l.length ≤ 1000000000) : Ev (fun k => laws_eqStringS.f k l l) true := by
  unfold laws_eqStringS.f
  refine Ev.pos rfl (go_to (fun k i => laws_eqStringS.l0 k l l i) l.length true ?_ l.length 0 (by omega) (fun j _ hj h => ?_))
  · refine Ev.step (fun k => rfl) ?_
    simp only [laws_eqStringS.l0]
    exact Ev.neg (by omega) (Ev.now _)
  · refine Ev.step (fun k => rfl) ?_
    simp only [laws_eqStringS.l0]
    rw [wrap_succ hj (by omega)]
    exact Ev.pos (by omega) (Ev.pos (by omega) (Ev.pos (by omega) (Ev.pos (by trivial) h)))
/-- The weight of the first choice that a test holds of, or another number. -/
def wOf (p : ChT → Bool) (l : List ChT) (d : Int) : Int := match l.find? p with
  | some c => c.f1
  | none => d
theorem wOf_drop (p : ChT → Bool) (l : List ChT) (i : Nat) (h : i < l.length) (d : Int) : wOf p (l.drop i) d = if p l[i] = true then l[i].f1 else wOf p (l.drop (i + 1)) d := by
  unfold wOf
  rw [List.drop_eq_getElem_cons h, List.find?_cons]
  cases p l[i] <;> rfl
theorem fidx_find (p : ChT → Bool) : ∀ (l : List ChT) (k : Int), (l.find? p = none ∧ fidx p l k = -1) ∨ ∃ (i : Nat) (h : i < l.length), fidx p l k = k + i ∧ l.find? p = some l[i]
  | [], k => .inl ⟨rfl, rfl⟩
  | x :: xs, k => by
    simp only [fidx, List.find?_cons]
    cases hp : p x with
    | true => exact .inr ⟨0, by simp, by simp, rfl⟩
    | false =>
      rcases fidx_find p xs (k + 1) with ⟨a, b⟩ | ⟨i, h, a, b⟩
      · exact .inl ⟨a, by simpa using b⟩
      · refine .inr ⟨i + 1, by simp only [List.length_cons]; omega, ?_, by simpa using b⟩
        rw [if_neg Bool.false_ne_true, a]
        omega
theorem at1_eq (l : List ChT) (t : ByteArray) (d : Int) : impl_weightFor.at1 l t (some d) = some (wOf (eqT t) l d) := by
  unfold impl_weightFor.at1 wOf
  rcases fidx_find (eqT t) l 0 with ⟨a, b⟩ | ⟨i, h, a, b⟩
  · rw [b, if_neg (by decide), a]
  · rw [a, b, if_pos (by omega), Int.zero_add, rd_choice l i h]
abbrev Star : ByteArray := ⟨#[42]⟩
/-- What an offer weighs. -/
def weigh (l : List ChT) (o : ByteArray) : Int := wOf (eqT (lowT o)) l (wOf (eqT Star) l 0)
theorem weigh_impl (l : List ChT) (o : ByteArray) (hl : l.length ≤ 20) (ho : o.size ≤ 9000000) : impl_weightFor.f l o = some (weigh l o) := by
  unfold impl_weightFor.f weigh
  rw [lowT_impl o ho, Option.bind_some, if_pos (by omega), at1_eq, at1_eq]
theorem star_list : Star.toList = ([42] : List UInt8) := by rw [ByteArray.toList_eq]
/-- The reference's search, from the end on. -/
theorem search (l : List ChT) (hl : l.length ≤ 20) (hw : ∀ c ∈ l, 0 ≤ c.f1) (ps : List ByteArray) (x8 o : ByteArray) (x9 : Int) (i : Nat) (hi : i < ps.length) (hps : ps.length ≤ 20) (ho : o.size ≤ 9000000) (r : ByteArray × Bool)
    (hr : Ev (fun k => if weigh l o > x9 then spec_BestChoice.l0 k l o (weigh l o) ps (ps.length : Int) ((i + 1 : Nat) : Int) else spec_BestChoice.l0 k l x8 x9 ps (ps.length : Int) ((i + 1 : Nat) : Int)) r) :
    ∀ (j : Nat), j ≤ l.length → Ev (fun k => spec_BestChoice.l1 k l x8 x9 o (wOf (eqT (lowT o)) (l.drop j) (-1)) (wOf (eqT Star) (l.drop j) 0) ((j : Int) - 1) ps (ps.length : Int) (i : Int)) r
  | 0, _ => by
    rw [List.drop_zero]
    refine Ev.step (fun k => rfl) ?_
    simp only [spec_BestChoice.l1]
    rw [wrap_succ hi (by omega)]
    refine Ev.neg (by omega) ?_
    unfold weigh at hr
    have e : (wOf (eqT (lowT o)) l (-1) < 0 ∧ wOf (eqT (lowT o)) l (wOf (eqT Star) l 0) = wOf (eqT Star) l 0) ∨ (¬ wOf (eqT (lowT o)) l (-1) < 0 ∧ wOf (eqT (lowT o)) l (wOf (eqT Star) l 0) = wOf (eqT (lowT o)) l (-1)) := by
      unfold wOf
      cases hf : l.find? (eqT (lowT o)) with
      | none => exact .inl ⟨by decide, rfl⟩
      | some c =>
        have := hw c (List.mem_of_find?_eq_some hf)
        exact .inr ⟨by show ¬ c.f1 < 0; omega, rfl⟩
    rcases e with ⟨e1, e2⟩ | ⟨e1, e2⟩
    · rw [e2] at hr
      exact Ev.pos e1 hr
    · rw [e2] at hr
      exact Ev.neg e1 hr
  | j + 1, hj => by
    have hlt : j < l.length := by omega
    have ih := search l hl hw ps x8 o x9 i hi hps ho r hr j (by omega)
    rw [wOf_drop _ l j hlt, wOf_drop _ l j hlt] at ih
    have w1 : wrap64 (((j + 1 : Nat) : Int) - 1 - 1) = (j : Int) - 1 := by rw [wrap_id (by omega) (by omega)]; omega
    have ej : ((j + 1 : Nat) : Int) - 1 = (j : Int) := by omega
    have q1 : (l[j].f0.toList = (lowT o).toList) ↔ eqT (lowT o) l[j] = true := beq_iff_eq.symm
    have q2 : (l[j].f0.toList = ([42] : List UInt8)) ↔ eqT Star l[j] = true := by unfold eqT; rw [star_list]; exact beq_iff_eq.symm
    refine Ev.step (fun k => rfl) ?_
    simp only [spec_BestChoice.l1]
    rw [w1, ej, rd_choice l j hlt]
    refine Ev.pos (by omega) (Ev.pos (by omega) (Ev.pos (by omega) (Ev.bnd (lowT_spec o ho) ?_)))
    by_cases a : eqT (lowT o) l[j] = true
    · rw [if_pos a] at ih
      refine Ev.pos (q1.2 a) ?_
      by_cases b : eqT Star l[j] = true
      · rw [if_pos b] at ih
        exact Ev.pos (q2.2 b) ih
      · rw [if_neg b] at ih
        exact Ev.neg (fun h => b (q2.1 h)) ih
    · rw [if_neg a] at ih
      refine Ev.neg (fun h => a (q1.1 h)) ?_
      by_cases b : eqT Star l[j] = true
      · rw [if_pos b] at ih
        exact Ev.pos (q2.2 b) ih
      · rw [if_neg b] at ih
        exact Ev.neg (fun h => b (q2.1 h)) ih
/-- The rounds over the offers. -/
theorem offers (l : List ChT) (hl : l.length ≤ 20) (hw : ∀ c ∈ l, 0 ≤ c.f1) (ps : List ByteArray) (hps : ps.length ≤ 20) (hs : ∀ x ∈ ps, x.size ≤ 1048576) : ∀ (d i : Nat) (x8 : ByteArray) (x9 : Int), i + d = ps.length →
    ∃ r : ByteArray × Bool, ((ps.drop i).all tokenB = true → Ev (fun k => spec_BestChoice.l0 k l x8 x9 ps (ps.length : Int) (i : Int)) r) ∧ Ev (fun k => impl_BestChoice.l0 k l x8 x9 ps (ps.length : Int) (i : Int)) r ∧
      ((ps.drop i).all tokenB = false → Ev (fun k => spec_BestChoice.l0 k l x8 x9 ps (ps.length : Int) (i : Int)) ((⟨#[]⟩ : ByteArray), false)) := by
  intro d
  induction d with
  | zero =>
    intro i x8 x9 hi
    refine ⟨(x8, decide (x9 > 0)), fun _ => Ev.step (fun k => rfl) ?_, Ev.step (fun k => rfl) ?_, fun h => ?_⟩
    · simp only [spec_BestChoice.l0]; exact Ev.neg (by omega) (Ev.now _)
    · simp only [impl_BestChoice.l0]; exact Ev.neg (by omega) (Ev.now _)
    · rw [List.drop_eq_nil_of_le (by omega)] at h; cases h
  | succ d ih =>
    intro i x8 x9 hi
    have hlt : i < ps.length := by omega
    have ho := hs _ (List.getElem_mem hlt)
    have k1 := token_spec ps[i] (by omega)
    have hget := rdOf_get ps i hlt
    have S : ∀ r, tokenB ps[i] = true → Ev (fun k => if weigh l ps[i] > x9 then spec_BestChoice.l0 k l ps[i] (weigh l ps[i]) ps (ps.length : Int) ((i + 1 : Nat) : Int) else spec_BestChoice.l0 k l x8 x9 ps (ps.length : Int) ((i + 1 : Nat) : Int)) r → Ev (fun k => spec_BestChoice.l0 k l x8 x9 ps (ps.length : Int) (i : Int)) r := fun r ht hr => by
      have z := search l hl hw ps x8 ps[i] x9 i hlt hps (by omega) r hr l.length (Nat.le_refl _)
      rw [List.drop_length] at z
      have z : Ev (fun k => spec_BestChoice.l1 k l x8 x9 ps[i] (-1) 0 ((l.length : Int) - 1) ps (ps.length : Int) (i : Int)) r := z
      rw [ht] at k1
      refine Ev.step (fun k => rfl) ?_
      simp only [spec_BestChoice.l0]
      rw [hget, wrap_id (x := (l.length : Int) - 1) (by omega) (by omega)]
      exact Ev.pos (by omega) (Ev.pos (by omega) (Ev.pos (by omega) (Ev.bind k1 (Ev.pos rfl z))))
    have hd := List.drop_eq_getElem_cons hlt
    have I := weigh_impl l ps[i] hl (by omega)
    have stop : tokenB ps[i] = false → Ev (fun k => spec_BestChoice.l0 k l x8 x9 ps (ps.length : Int) (i : Int)) ((⟨#[]⟩ : ByteArray), false) := fun ht => by
      rw [ht] at k1
      refine Ev.step (fun k => rfl) ?_
      simp only [spec_BestChoice.l0]
      rw [hget]
      exact Ev.pos (by omega) (Ev.pos (by omega) (Ev.pos (by omega) (Ev.bind k1 (Ev.neg Bool.false_ne_true (Ev.now _)))))
    by_cases hgt : weigh l ps[i] > x9
    · obtain ⟨r, z1, z2, z3⟩ := ih (i + 1) ps[i] (weigh l ps[i]) (by omega)
      refine ⟨r, fun h => ?_, Ev.step (fun k => rfl) ?_, fun h => ?_⟩
      · rw [hd, List.all_cons, Bool.and_eq_true] at h
        exact S r h.1 (Ev.pos hgt (z1 h.2))
      · simp only [impl_BestChoice.l0]
        rw [hget, wrap_succ hlt (by omega)]
        exact Ev.pos (by omega) (Ev.pos (by omega) (Ev.pos (by omega) (Ev.bnd I (Ev.pos hgt z2))))
      · rw [hd, List.all_cons] at h
        cases ht : tokenB ps[i] with
        | false => exact stop ht
        | true => rw [ht, Bool.true_and] at h; exact S _ ht (Ev.pos hgt (z3 h))
    · obtain ⟨r, z1, z2, z3⟩ := ih (i + 1) x8 x9 (by omega)
      refine ⟨r, fun h => ?_, Ev.step (fun k => rfl) ?_, fun h => ?_⟩
      · rw [hd, List.all_cons, Bool.and_eq_true] at h
        exact S r h.1 (Ev.neg hgt (z1 h.2))
      · simp only [impl_BestChoice.l0]
        rw [hget, wrap_succ hlt (by omega)]
        exact Ev.pos (by omega) (Ev.pos (by omega) (Ev.pos (by omega) (Ev.bnd I (Ev.neg hgt z2))))
      · rw [hd, List.all_cons] at h
        cases ht : tokenB ps[i] with
        | false => exact stop ht
        | true => rw [ht, Bool.true_and] at h; exact S _ ht (Ev.neg hgt (z3 h))
theorem best_both (s : ByteArray) (ps : List ByteArray) (hs : s.size ≤ 1048576) (hl : ps.length ≤ 1048576) (hp : ∀ x ∈ ps, x.size ≤ 1048576) : ∃ (g : ByteArray) (o : Bool), Ev (fun k => spec_BestChoice.f k s ps) (g, o) ∧ Ev (fun k => impl_BestChoice.f k s ps) (g, o) := by
  obtain ⟨l, ok, ⟨l0, lw⟩, g1, g2⟩ := choices_both s hs
  have s0 : Ev (fun k => spec_BestChoice.j0 k ps l true) ((⟨#[]⟩ : ByteArray), false) := by
    refine Ev.step (fun k => rfl) ?_
    simp only [spec_BestChoice.j0]
    exact Ev.pos (by trivial) (Ev.now _)
  have i0 : Ev (fun k => impl_BestChoice.j0 k ps l true) ((⟨#[]⟩ : ByteArray), false) := by
    refine Ev.step (fun k => rfl) ?_
    simp only [impl_BestChoice.j0]
    exact Ev.pos (by trivial) (Ev.now _)
  unfold spec_BestChoice.f impl_BestChoice.f
  cases ok with
  | false => exact ⟨_, _, Ev.bind g1 (Ev.neg Bool.false_ne_true s0), Ev.bind g2 (Ev.neg Bool.false_ne_true i0)⟩
  | true =>
    by_cases h20 : (ps.length : Int) > 20
    · refine ⟨_, _, Ev.bind g1 (Ev.pos rfl ?_), Ev.bind g2 (Ev.pos rfl (Ev.pos h20 i0))⟩
      rw [decide_eq_true h20]
      exact s0
    · have A : impl_areAll_string_14.f ps () = some (ps.all tokenB) := by
        unfold impl_areAll_string_14.f
        rw [if_pos (by omega)]
        exact allO_all (fun x hx => token_impl x (by have := hp x hx; omega))
      obtain ⟨r, z1, z2, z3⟩ := offers l l0 lw ps (by omega) hp ps.length 0 (⟨#[]⟩ : ByteArray) 0 (by omega)
      rw [List.drop_zero] at z1 z3
      have B : ∀ r', Ev (fun k => spec_BestChoice.l0 k l (⟨#[]⟩ : ByteArray) 0 ps (ps.length : Int) 0) r' → Ev (fun k => spec_BestChoice.j0 k ps l (decide ((ps.length : Int) > 20))) r' := fun r' h => by
        rw [decide_eq_false h20]
        refine Ev.step (fun k => rfl) ?_
        simp only [spec_BestChoice.j0]
        exact Ev.neg (by decide) h
      cases ha : ps.all tokenB with
      | false =>
        rw [ha] at A
        exact ⟨_, _, Ev.bind g1 (Ev.pos rfl (B _ (z3 ha))), Ev.bind g2 (Ev.pos rfl (Ev.neg h20 (Ev.bnd A i0)))⟩
      | true =>
        rw [ha] at A
        refine ⟨r.1, r.2, Ev.bind g1 (Ev.pos rfl (B _ (z1 ha))), Ev.bind g2 (Ev.pos rfl (Ev.neg h20 (Ev.bnd A (Ev.step (fun k => rfl) ?_))))⟩
        simp only [impl_BestChoice.j0]
        exact Ev.neg (by decide) z2
theorem FnExactBestChoice : laws_FnExactBestChoice.Pure := by
  intro s l hs hl hx
  apply Ev.rounds
  unfold laws_FnExactBestChoice.f
  by_cases h0 : (s.size : Int) > 1048576
  · exact Ev.pos h0 (Ev.now _)
  obtain ⟨t, t1, _, t3⟩ := sz_strings l 1048576 hl hx (by omega) (by omega)
  refine Ev.neg h0 (Ev.bind t1 ?_)
  by_cases ht : t < 0
  · exact Ev.pos ht (Ev.now _)
  have h3 := t3 ht
  have hc := to_strings l (by omega)
  obtain ⟨g, o, g1, g2⟩ := best_both s l (by omega) (by omega) (fun x h => by have := sizes_mem h; omega)
  refine Ev.neg ht (Ev.bind hc (Ev.bind g1 (Ev.bind hc (Ev.bind g2 (Ev.pos rfl ?_)))))
  rw [show (o != o) = false by simp]
  refine Ev.step (fun k => rfl) ?_
  simp only [laws_FnExactBestChoice.j0]
  exact Ev.neg (by decide) (Ev.bind hc (Ev.bind (eq_strings l (by omega)) (Ev.pos (by trivial) (Ev.now _))))
end Go.Proofs.YtmnddfiidnemiaaGreatDoor.Pure

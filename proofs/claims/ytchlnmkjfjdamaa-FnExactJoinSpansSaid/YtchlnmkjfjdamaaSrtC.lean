/- slices.SortFunc over twelve spans or fewer, in a row of the call's own. No condition beyond each contract's own hypotheses. -/
import Derived.Test.YtchlnmkjfjdamaaSrtB
import Derived.Test.YtchlnmkjfjdamaaShelf
import Derived.Lib.OwnBridge
namespace Go.Proofs.YtchlnmkjfjdamaaSrt
set_option linter.unusedVariables false
set_option linter.unusedSimpArgs false
open Go.RowKit Go.Shelf Go.Lib Go.Sort
/-- A span whose ends are small numbers. -/
abbrev SP : Type := { x : Int × Int // 0 ≤ x.1 ∧ x.1 ≤ 1000000 }
instance : Inhabited SP := ⟨⟨(0, 0), by decide⟩⟩
def encS (x : SP) : List Value := enc x.1
def cmpS (x y : SP) : Int := x.1.1 - y.1.1
def flatS (zs : List SP) : List Value := flat (zs.map (·.1))
theorem lt_eq (x y : SP) : ltOf cmpS x y = decide (x.1.1 - y.1.1 < 0) := rfl
theorem swo : SWO (ltOf cmpS) where
  irrefl x := by rw [lt_eq]; exact decide_eq_false (by omega)
  trans x y z h1 h2 := by rw [lt_eq] at h1 h2 ⊢; exact decide_eq_true (by have := of_decide_eq_true h1; have := of_decide_eq_true h2; omega)
  ntrans x y z h1 h2 := by rw [lt_eq] at h1 h2 ⊢; exact decide_eq_false (by have := of_decide_eq_false h1; have := of_decide_eq_false h2; omega)
/-- Spans by where they begin, as the insertion sort lays them. -/
def sortS (zs : List SP) : List SP := (Sort.insertionSort (ltOf cmpS) zs.toArray 0 zs.length).toList
theorem sortS_holds (zs : List SP) : PermIn 0 zs.length zs.toArray (Sort.insertionSort (ltOf cmpS) zs.toArray 0 zs.length) ∧ SortedIn (ltOf cmpS) 0 zs.length (Sort.insertionSort (ltOf cmpS) zs.toArray 0 zs.length) :=
  insertionSort_holds (lt := ltOf cmpS) swo zs.toArray 0 zs.length (Nat.zero_le _) (by simp)
theorem sortS_size (zs : List SP) : (Sort.insertionSort (ltOf cmpS) zs.toArray 0 zs.length).size = zs.length := by
  have := (sortS_holds zs).1.1
  simpa using this
theorem sortS_length (zs : List SP) : (sortS zs).length = zs.length := by
  unfold sortS; rw [Array.length_toList, sortS_size]
theorem sortS_perm (zs : List SP) : (sortS zs).Perm zs := by
  have h := (sortS_holds zs).1.2.2
  have e : ∀ A : Array SP, A.size = zs.length → (A.extract 0 zs.length).toList = A.toList := fun A hA => by
    rw [← hA]; simp
  rw [e _ (sortS_size zs), e _ (by simp)] at h
  exact h
theorem sortS_sorted (zs : List SP) : (sortS zs).Pairwise fun x y => x.1.1 ≤ y.1.1 := by
  refine List.pairwise_iff_getElem.2 fun i j hi hj hij => ?_
  have hj' : j < zs.length := by rw [← sortS_length zs]; exact hj
  have := (sortS_holds zs).2 i j (Nat.zero_le _) hij hj'
  have s1 : i < (Sort.insertionSort (ltOf cmpS) zs.toArray 0 zs.length).size := by rw [sortS_size]; omega
  have s2 : j < (Sort.insertionSort (ltOf cmpS) zs.toArray 0 zs.length).size := by rw [sortS_size]; omega
  rw [getElem!_pos _ i s1, getElem!_pos _ j s2] at this
  rw [lt_eq] at this
  have := of_decide_eq_false this
  simp only [sortS, Array.getElem_toList]
  omega
theorem flatS_length (zs : List SP) : (flatS zs).length = zs.length * 2 := by
  unfold flatS flat
  induction zs with
  | nil => rfl
  | cons z zs ih => simp only [List.map_cons, List.flatMap_cons, List.length_append, ih, List.length_cons]; simp [enc]; omega
theorem flatS_get : ∀ (zs : List SP) (t : Nat), t < zs.length * 2 → (flatS zs)[t]! = (encS zs.toArray[t / 2]!)[t % 2]!
  | [], t, h => by simp at h
  | z :: zs, 0, _ => by simp [flatS, flat, enc, encS]
  | z :: zs, 1, _ => by simp [flatS, flat, enc, encS]
  | z :: zs, t + 2, h => by
    have ih := flatS_get zs t (by simp at h; omega)
    have e1 : (t + 2) / 2 = t / 2 + 1 := by omega
    have e2 : (t + 2) % 2 = t % 2 := by omega
    rw [e1, e2]
    have e3 : flatS (z :: zs) = enc z.1 ++ flatS zs := by unfold flatS flat; simp
    rw [e3]
    have e4 : (z :: zs).toArray[t / 2 + 1]! = zs.toArray[t / 2]! := by simp
    rw [e4, ← ih]
    simp [enc]
theorem flatK_eq (zs : List SP) : flatK encS 2 zs.toArray = (flatS zs).toArray := by
  refine ext_get! (by rw [size_flatK]; simp [flatS_length]) fun t ht => ?_
  rw [size_flatK] at ht
  rw [get_flatK _ _ _ _ ht]
  have := flatS_get zs t (by simpa using ht)
  rw [← this]
  simp
theorem own_holds {w : World} {base e g n cap : Nat} {zs : List SP} (h : w.ownsRow base e 2 (.slice (some ⟨g, 0, none⟩) n cap) n (flatS zs)) : base ≤ g ∧ g < w.heap.size ∧ HoldsK encS 2 w g 0 zs.toArray := by
  rcases h.2 with ⟨e0, _⟩ | ⟨g', cap', cur, e0, hb, hg, hn, hm, hs, ht⟩
  · cases e0
  · injection e0 with e1 _ e3
    injection e1 with e1
    injection e1 with e1
    subst e1; subst e3
    refine ⟨hb, (Array.getElem?_eq_some_iff.1 hg).1, ?_⟩
    unfold HoldsK
    rw [flatK_eq]
    intro j hj
    have hj' : j < (flatS zs).length := by simpa using hj
    refine ⟨?_, by simp [World.frozen?, hg]⟩
    have hl := h.1
    have e1 : (cur.toList.take (n * 2))[j]? = (flatS zs)[j]? := by rw [ht]
    rw [List.getElem?_take, if_pos (by omega), Array.getElem?_toList, List.getElem?_eq_getElem hj'] at e1
    simp only [World.cell?, hg, Nat.zero_add]
    simp only [Option.isSome_none, Bool.false_eq_true, if_false]
    rw [e1]
    simp [hj']
theorem own_put {w : World} {base e g n cap m : Nat} {os : Array Obj} {F : Array Value} {xs : List Value} (h : w.ownsRow base e 2 (.slice (some ⟨g, 0, none⟩) n cap) n xs) (hF : F.size = n * 2) :
    (grow (putRow id (Sort.ahead w m) g 0 F) os).ownsRow base e 2 (.slice (some ⟨g, 0, none⟩) n cap) n F.toList := by
  rcases h.2 with ⟨e0, _⟩ | ⟨g', cap', cur, e0, hb, hg, hn, hm, hs, ht⟩
  · cases e0
  · injection e0 with e1 _ e3
    injection e1 with e1
    injection e1 with e1
    subst e1; subst e3
    have hlt := (Array.getElem?_eq_some_iff.1 hg).1
    refine ⟨by simpa using hF, .inr ⟨g, cap, putCells id 0 F cur, rfl, hb, ?_, hn, hm, by simpa [putCells] using hs, ?_⟩⟩
    · show ((putRow id (Sort.ahead w m) g 0 F).heap ++ os)[g]? = _
      rw [Array.getElem?_append_left (by rw [size_putRow]; exact hlt)]
      simp [putRow, mapBlock, Sort.ahead, Array.getElem?_modify, hg, onCells]
    · apply List.ext_getElem?
      intro j
      rw [List.getElem?_take, Array.getElem?_toList, Array.getElem?_toList]
      by_cases hj : j < n * 2
      · have hjc : j < cur.size := by omega
        simp only [if_pos hj, putCells, Array.getElem?_mapIdx, Array.getElem?_eq_getElem hjc, Option.map_some]
        rw [if_pos (by omega), Array.getElem?_eq_getElem (by omega)]
        simp [getElem!_pos, show j < F.size by omega]
      · rw [if_neg hj, Array.getElem?_eq_none (by omega)]
theorem below_put {w : World} {B g m : Nat} {os : Array Obj} {F : Array Value} (hg : B ≤ g) (hB : B ≤ w.heap.size) : Below B w (grow (putRow id (Sort.ahead w m) g 0 F) os) :=
  (below_putRow (Below.refl B w) hg).trans ⟨rfl, rfl, rfl, by rw [size_grow]; exact Nat.le_add_right _ _, fun k hk => by
    show ((putRow id (Sort.ahead w m) g 0 F).heap ++ os)[k]? = _
    rw [Array.getElem?_append_left (by rw [size_putRow]; show k < w.heap.size; omega)]⟩

set_option maxHeartbeats 1000000 in
/-- The comparing function: two blocks are laid. -/
theorem closure (x y : SP) (W : World) : Calls Try.prog 50 #[.agg #[.int .i64 x.1.1, .int .i64 x.1.2], .agg #[.int .i64 y.1.1, .int .i64 y.1.2]] W fun e w' => e = .returned (.int .i64 (cmpS x y)) ∧ ∃ q os', w' = grow (W.drewN q) os' := by
  have hw : IntKind.i64.wrap (x.1.1 - y.1.1) = cmpS x y := by
    have h1 := x.2; have h2 := y.2
    unfold cmpS
    rw [IntKind.wrap_i64]
    omega
  generalize cmpS x y = r at hw ⊢
  go_enter Try.func50, Try.ntmps50
  go_wp2
  go_ret
  exact ⟨by first | rfl | (rw [← hw]; rfl) | (simp [← hw]), 0, _, by rw [alloc_eq_grow, alloc_eq_grow, grow_grow]; rfl⟩
theorem hlen (n : Nat) (W : World) (h : n ≤ 12) : Calls Try.prog 69 #[.int .u64 n] W fun e w' => (∃ l : Int, e = .returned (.int .i64 l)) ∧ w' = W :=
  (Try.bits_Len n W (by omega) (by omega)).mono fun _ _ ⟨he, hw⟩ => ⟨⟨_, he⟩, hw⟩
/-- slices.SortFunc, twelve spans or fewer, in a row of the call's own. -/
theorem sortFunc (base g cap : Nat) (zs : List SP) (w : World) (h : w.ownsRow base 48 2 (.slice (some ⟨g, 0, none⟩) zs.length cap) zs.length (flatS zs)) (h12 : zs.length ≤ 12) (hB : base ≤ w.heap.size) :
    Calls Try.prog 60 #[.slice (some ⟨g, 0, none⟩) zs.length cap, .func (.func 50) #[] #[]] w fun e w' => e = .returned (.tuple #[]) ∧
      w'.ownsRow base 48 2 (.slice (some ⟨g, 0, none⟩) zs.length cap) zs.length (flatS (sortS zs)) ∧ Below base w w' := by
  obtain ⟨hb, hlt, hH⟩ := own_holds h
  have hs : zs.toArray.size = zs.length := by simp
  have eg : ∀ args w, (callFunc 50 args).run Try.prog w = .ok (.enter 50 args) w := enters_of Try.func50 (by kernel_rfl) rfl
  have hcon := AnyQ.slices_SortFunc_small Try.sortLays 2 Try.isAgg48 Try.sizeOf48 encS (fun _ => rfl) (fun x v hv => by simp [encS, enc] at hv; rcases hv with rfl | rfl <;> rfl) cmpS 50 #[] g 0 cap zs.toArray w eg (fun _ _ _ _ x y => closure x y _) hH hlt (by omega) hlen
  change Calls Try.prog 60 _ _ _ at hcon
  rw [hs] at hcon
  refine hcon.mono ?_
  rintro e w' ⟨rfl, m, os, rfl⟩
  have hF : flatK encS 2 (Sort.insertionSort (ltOf cmpS) zs.toArray 0 zs.length) = (flatS (sortS zs)).toArray := by
    have := flatK_eq (sortS zs)
    rwa [show (sortS zs).toArray = Sort.insertionSort (ltOf cmpS) zs.toArray 0 zs.length from Array.toArray_toList ..] at this
  unfold sortWorldK putRowK
  rw [hF]
  refine ⟨rfl, ?_, below_put hb hB⟩
  have := own_put (m := m) (os := os) (F := (flatS (sortS zs)).toArray) h (by simp [flatS_length, sortS_length])
  simpa using this
set_option maxHeartbeats 2000000 in
theorem insertion_none (fv : Value) (w : World) : Calls Try.prog 71 #[.slice none 0 0, .int .i64 0, .int .i64 0, fv] w fun e w' => e = .returned (.tuple #[]) ∧ w' = w := by
  go_enter Try.func71, Try.ntmps71
  go_wp2
  refine wp_loop_rounds 1 ?_
  rw [rounds_succ]
  go_wp2
  go_end0
  exact ⟨rfl, rfl⟩
set_option maxHeartbeats 2000000 in
theorem pdq_none (lim : Int) (fv : Value) (w : World) : Calls Try.prog 68 #[.slice none 0 0, .int .i64 0, .int .i64 0, .int .i64 lim, fv] w fun e w' => e = .returned (.tuple #[]) ∧ w' = w := by
  have hi := fun W => insertion_none fv W
  go_enter Try.func68, Try.ntmps68
  go_wp2
  refine wp_loop_rounds 1 ?_
  rw [rounds_succ]
  go_wp2_with (go_at_call 71; refine (hi _).mono ?_; rintro e w' ⟨rfl, rfl⟩)
  (try simp only [Exit.inBlock, Exit.then]); refine bodyPost_ret (results_none rfl _ _ _) rfl ?_
  exact ⟨rfl, rfl⟩
set_option maxHeartbeats 2000000 in
theorem sort_none (fv : Value) (w : World) : Calls Try.prog 60 #[.slice none 0 0, fv] w fun e w' => e = .returned (.tuple #[]) ∧ w' = w := by
  have hp := fun lim W => pdq_none lim fv W
  have hl := fun W => hlen 0 W (by omega)
  go_enter Try.func60, Try.ntmps60
  go_wp2_with (first | (go_at_call 69; refine (hl _).mono ?_; rintro e w' ⟨⟨l, rfl⟩, rfl⟩) | (go_at_call 68; refine (hp _ _).mono ?_; rintro e w' ⟨rfl, rfl⟩))
  go_end0
  exact ⟨rfl, rfl⟩
set_option maxHeartbeats 2000000 in
/-- slices.Collect over slices.Values. -/
theorem collect (Bs : Nat) (sv : Value) (zs : List (Int × Int)) (hz : zs.length ≤ 1000) (w : World) (hBs : Bs < w.heap.size) (hc : w.cell? ⟨Bs, 0, none⟩ = some sv) (hI : Held w.heap.size w sv zs) :
    Calls Try.prog 59 #[.func (.func 61) #[] #[.pointer (some ⟨Bs, 0, none⟩)]] w fun e W' =>
      ∃ v, e = .returned v ∧ W'.ownsRow w.heap.size 48 2 v zs.length (flat zs) ∧ (v = .slice none 0 0 ↔ zs = []) ∧ Below w.heap.size w W' := by
  have h := callsIn_wide.1 (appendSeq_in Fence.wide 3 trivial trivial rfl (by omega) Bs sv zs hz w hBs hc hI)
  clear hc hI
  go_enter Try.func59, Try.ntmps59
  go_wp2_with (go_at_call 67; refine h.mono ?_; rintro e w' ⟨v, rfl, ho, hnil, hb⟩)
  go_ret
  exact ⟨v, rfl, ho, hnil, hb⟩
set_option maxHeartbeats 2000000 in
/-- slices.SortedFunc over slices.Values: the spans by where they begin, in a row of the call's own. -/
theorem sortedFunc (Bs : Nat) (sv : Value) (zs : List SP) (hz : zs.length ≤ 12) (w : World) (hBs : Bs < w.heap.size) (hc : w.cell? ⟨Bs, 0, none⟩ = some sv) (hI : Held w.heap.size w sv (zs.map (·.1))) :
    Calls Try.prog 48 #[.func (.func 61) #[] #[.pointer (some ⟨Bs, 0, none⟩)], .func (.func 50) #[] #[]] w fun e W' =>
      ∃ v, e = .returned v ∧ W'.ownsRow w.heap.size 48 2 v zs.length (flatS (sortS zs)) ∧ Below w.heap.size w W' := by
  have h := collect Bs sv (zs.map (·.1)) (by rw [List.length_map]; omega) w hBs hc hI
  rw [List.length_map] at h
  clear hc hI
  by_cases h0 : zs = []
  · subst h0
    have hs := fun W => sort_none (.func (.func 50) #[] #[]) W
    go_enter Try.func48, Try.ntmps48
    go_wp2_with (first | (go_at_call 59; refine h.mono ?_; rintro e w1 ⟨v, rfl, ho, hnil, hb⟩; obtain rfl := hnil.2 rfl) | (go_at_call 60; refine (hs _).mono ?_; rintro e w2 ⟨rfl, rfl⟩))
    go_ret
    have e : flatS (sortS []) = [] := List.eq_nil_of_length_eq_zero (by rw [flatS_length, sortS_length]; rfl)
    rw [e]
    exact ⟨_, rfl, World.ownsRow_nil _ _ _ _, hb⟩
  · have h' : Calls Try.prog 59 #[.func (.func 61) #[] #[.pointer (some ⟨Bs, 0, none⟩)]] w fun e W' =>
        ∃ g cap, e = .returned (.slice (some ⟨g, 0, none⟩) zs.length cap) ∧ W'.ownsRow w.heap.size 48 2 (.slice (some ⟨g, 0, none⟩) zs.length cap) zs.length (flatS zs) ∧ Below w.heap.size w W' := h.mono fun e W' ⟨v, he, ho, hnil, hb⟩ => by
      rcases ho.2 with ⟨e0, _⟩ | ⟨g, cap, cur, e0, _⟩
      · exact absurd (List.map_eq_nil_iff.1 (hnil.1 e0)) h0
      · subst e0
        exact ⟨g, cap, he, ho, hb⟩
    clear h
    have hs := fun g cap W ho hB => sortFunc w.heap.size g cap zs W ho hz hB
    go_enter Try.func48, Try.ntmps48
    go_wp2_with (first | (go_at_call 59; refine h'.mono ?_; rintro e w1 ⟨g, cap, rfl, ho, hb⟩) | (go_at_call 60; refine (hs _ _ _ ho hb.size).mono ?_; rintro e w2 ⟨rfl, ho2, hb2⟩))
    go_ret
    exact ⟨_, rfl, ho2, hb.trans hb2⟩
end Go.Proofs.YtchlnmkjfjdamaaSrt

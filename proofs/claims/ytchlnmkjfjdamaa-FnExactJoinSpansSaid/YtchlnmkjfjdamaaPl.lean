/- Plain laws on rounds, bytes and numbers that this claim's proofs share. No condition. -/
import Derived.Test.YtchlnmkjfjdamaaF0
import Derived.Test.YtchlnmkjfjdamaaWWords
namespace Go.Proofs.YtchlnmkjfjdamaaPl
open Go.RowKit Go.Proofs.YtchlnmkjfjdamaaHw Go.Proofs.YtchlnmkjfjdamaaW.PrintWords
set_option linter.unusedVariables false
set_option linter.unusedSimpArgs false

theorem wrap_id {x : Int} (h0 : -9223372036854775808 ≤ x) (h1 : x ≤ 9223372036854775807) : wrap64 x = x := by unfold wrap64; omega
theorem wrap_succ {i n : Nat} (h : i < n) (hn : n ≤ 9223372036854775807) : wrap64 ((i : Int) + 1) = ((i + 1 : Nat) : Int) := by unfold wrap64; omega

theorem Ev.pos {α : Type} {c : Prop} [Decidable c] {g f : Nat → Option α} {r : α} (h : c) (hg : Ev g r) : Ev (fun k => if c then g k else f k) r := by simpa only [if_pos h] using hg
theorem Ev.neg {α : Type} {c : Prop} [Decidable c] {g f : Nat → Option α} {r : α} (h : ¬ c) (hf : Ev f r) : Ev (fun k => if c then g k else f k) r := by simpa only [if_neg h] using hf
theorem Ev.bnd {α β : Type} {o : Option β} {f : Nat → β → Option α} {a : β} {r : α} (h : o = some a) (k : Ev (fun n => f n a) r) : Ev (fun n => o.bind (f n)) r := by subst h; exact k
theorem Ev.some {α : Type} {o : Option α} {r : α} (h : o = some r) : Ev (fun _ => o) r := ⟨0, fun _ _ => h⟩
theorem Ev.eq {α : Type} {g : Nat → Option α} {r r' : α} (h : Ev g r) (e : r = r') : Ev g r' := e ▸ h
theorem Ev.det {α : Type} {g : Nat → Option α} {r r' : α} (h : Ev g r) (h' : Ev g r') : r = r' := by
  obtain ⟨K, h⟩ := h; obtain ⟨K', h'⟩ := h'
  have := (h (max K K') (by omega)).symm.trans (h' (max K K') (by omega))
  exact Option.some.inj this

theorem bt_byte (s : ByteArray) (i : Int) : ∃ b : Fin 256, bt s i = (b.val : Int) := by
  have h := bt_range s i
  exact ⟨⟨(bt s i).toNat, by omega⟩, by simp; omega⟩
theorem numsOf_getD' (s : ByteArray) (i : Nat) : (numsOf s).getD i 0 = bt s (i : Int) := by
  rw [numsOf_getD]
  unfold bt
  by_cases h : i < s.size
  · rw [dif_pos (by simpa using h)]
    have h' : i < s.data.toList.length := by rw [Array.length_toList]; exact h
    simp only [Int.toNat_natCast, List.getD_eq_getElem?_getD, List.getElem?_eq_getElem h', Option.getD_some]
    simp [ByteArray.getElem_eq_getElem_data]
  · rw [dif_neg (by simpa using h)]
    have h' : ¬ i < s.data.toList.length := by rw [Array.length_toList]; exact h
    simp [List.getD_eq_getElem?_getD, List.getElem?_eq_none (show s.data.toList.length ≤ i by omega)]
theorem numsOf_drop (s : ByteArray) (i : Nat) (h : i < s.size) : (numsOf s).drop i = bt s (i : Int) :: (numsOf s).drop (i + 1) := by
  have hl : i < (numsOf s).length := by rw [numsOf_length]; exact h
  rw [List.drop_eq_getElem_cons hl, ← numsOf_getD']
  simp [List.getD_eq_getElem?_getD, List.getElem?_eq_getElem hl]
theorem numsOf_mem (s : ByteArray) (x : Int) (h : x ∈ numsOf s) : ∃ b : Fin 256, x = (b.val : Int) := by
  unfold numsOf at h
  obtain ⟨b, _, rfl⟩ := List.mem_map.1 h
  exact ⟨⟨b.toNat, b.toNat_lt⟩, rfl⟩

/-- A test of all elements that tells each. -/
theorem allO_all {α : Type} {p : α → Option Bool} {q : α → Bool} : ∀ {l : List α}, (∀ x ∈ l, p x = some (q x)) → allO p l = some (l.all q)
  | [], _ => rfl
  | x :: xs, h => by
    simp only [allO, h x List.mem_cons_self, Option.bind_some, List.all_cons]
    cases q x with
    | true => simpa using allO_all (fun y hy => h y (List.mem_cons_of_mem _ hy))
    | false => rfl

/-- A loop over a text that goes on as long as a test holds of each byte. -/
theorem loop_all {α : Type} (s : ByteArray) (L : Nat → Int → Option α) (q : Int → Bool) (rf fin : α)
    (hstep : ∀ i : Nat, i < s.size → q (bt s i) = true → ∀ k, L (k + 1) (i : Int) = L k ((i + 1 : Nat) : Int))
    (hstop : ∀ i : Nat, i < s.size → q (bt s i) = false → ∀ k, L (k + 1) (i : Int) = some rf)
    (hend : ∀ k, L (k + 1) (s.size : Int) = some fin) : ∀ (d i : Nat), i + d = s.size → Ev (fun k => L k (i : Int)) (if ((numsOf s).drop i).all q then fin else rf) := by
  intro d
  induction d with
  | zero =>
    intro i hi
    obtain rfl : i = s.size := by omega
    rw [List.drop_eq_nil_of_le (by rw [numsOf_length]; omega)]
    exact Ev.step (fun k => hend k) (Ev.now _)
  | succ d ih =>
    intro i hi
    rw [numsOf_drop s i (by omega), List.all_cons]
    cases hq : q (bt s (i : Int)) with
    | true =>
      simp only [Bool.true_and]
      exact Ev.step (fun k => hstep i (by omega) hq k) (ih (i + 1) (by omega))
    | false =>
      simp only [Bool.false_and]
      exact Ev.step (fun k => hstop i (by omega) hq k) (Ev.now _)

theorem ba_ext {s t : ByteArray} (h : numsOf s = numsOf t) : s = t := by
  unfold numsOf at h
  have : s.data.toList = t.data.toList := by
    have inj : Function.Injective (fun b : UInt8 => (b.toNat : Int)) := fun a b h => UInt8.toNat_inj.1 (Int.ofNat_inj.1 h)
    exact List.map_inj_right (fun a b h => inj h) |>.1 h
  cases s; cases t; simp only [ByteArray.mk.injEq]; exact Array.toList_inj.1 this
theorem numsOf_append (s t : ByteArray) : numsOf (s ++ t) = numsOf s ++ numsOf t := by
  unfold numsOf; rw [← List.map_append]; simp [ByteArray.data_append]
theorem strOfNums_numsOf (s : ByteArray) : strOfNums (numsOf s) = s := by
  apply ByteArray.ext
  apply Array.toList_inj.1
  unfold strOfNums numsOf
  simp only [List.map_map]
  conv => rhs; rw [← List.map_id s.data.toList]
  apply List.map_congr_left
  intro b _
  simp
theorem strOfNums_append (a b : List Int) : strOfNums (a ++ b) = strOfNums a ++ strOfNums b := by
  apply ByteArray.ext
  apply Array.toList_inj.1
  simp [strOfNums, ByteArray.data_append]
theorem bytesOf_numsOf (s : ByteArray) : bytesOf s = numsOf s := rfl
theorem extract_one (s : ByteArray) (i : Nat) (h : i < s.size) : s.extract i (i + 1) = strOfNums [bt s (i : Int)] := by
  apply ba_ext
  have e : numsOf (strOfNums [bt s (i : Int)]) = [bt s (i : Int)] := by
    obtain ⟨b, hb⟩ := bt_byte s (i : Int)
    rw [hb]; unfold numsOf strOfNums
    simp only [List.map_cons, List.map_nil, List.cons.injEq, and_true]
    have : ((b.val : Int).toNat) = b.val := by simp
    rw [this]
    have hb2 := b.isLt
    simp
  rw [e]
  have h' : i < (numsOf s).length := by rw [numsOf_length]; exact h
  have : numsOf (s.extract i (i + 1)) = ((numsOf s).drop i).take 1 := by
    unfold numsOf
    rw [← List.map_drop, ← List.map_take]
    congr 1
    simp [ByteArray.data_extract]
  rw [this, numsOf_drop s i h]
  rfl
theorem extract_size (s : ByteArray) (i j : Nat) (hj : j ≤ s.size) : (s.extract i j).size = j - i := by rw [ByteArray.size_extract]; omega
theorem numsOf_extract (s : ByteArray) (i j : Nat) : numsOf (s.extract i j) = ((numsOf s).drop i).take (j - i) := by
  unfold numsOf
  rw [← List.map_drop, ← List.map_take]
  congr 1
  simp [ByteArray.data_extract]
theorem bt_extract (s : ByteArray) (i j n : Nat) (h : n < j - i) : bt (s.extract i j) (n : Int) = bt s ((i + n : Nat) : Int) := by
  rw [← numsOf_getD', ← numsOf_getD', numsOf_extract]
  simp only [List.getD_eq_getElem?_getD, List.getElem?_take, List.getElem?_drop, if_pos h]
theorem wrap_nat {n : Nat} (h : n ≤ 9223372036854775807) : wrap64 (n : Int) = (n : Int) := wrap_id (by omega) (by omega)
theorem wrap_add {i n : Nat} (h : i + n ≤ 9223372036854775807) : wrap64 ((i : Int) + (n : Int)) = ((i + n : Nat) : Int) := by rw [wrap_id (by omega) (by omega)]; omega
end Go.Proofs.YtchlnmkjfjdamaaPl

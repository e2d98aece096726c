/- A row of spans gone through by the library's iterator, and collected anew: slices.Values, slices.AppendSeq, slices.Collect. No condition beyond each contract's own hypotheses. -/
import Derived.RangeFuncNested
import Derived.RangeFuncBound
import Derived.RangeFuncCalls
import Derived.RangeFuncLeaves
import Derived.Shelf.Abstract
import Derived.Shelf.RegionOpen
import Derived.WalkKit
import Derived.OwnWalkIn
import Derived.TacticsInMore
import Derived.LoopNIn
import Derived.LoopIn
import Derived.Maps.AppendAt
import Derived.Test.YtchlnmkjfjdamaaProg
namespace Go.Proofs.YtchlnmkjfjdamaaSrt
set_option linter.unusedVariables false
set_option linter.unusedSimpArgs false
open Go.RowKit Go.Shelf
attribute [local go_sem] Oper.semAt_some
/-- A span's two cells. -/
def enc (x : Int × Int) : List Value := [.int .i64 x.1, .int .i64 x.2]
/-- The slice value sv holds the spans zs in a block below n; or there are none. -/
def Held (n : Nat) (W : World) (sv : Value) (zs : List (Int × Int)) : Prop :=
  ∃ (A : Option Addr) (cap : Nat), sv = .slice A zs.length cap ∧ (zs ≠ [] → ∃ ad : Addr, A = some ad ∧ ad.block < n ∧ ∀ j x, zs[j]? = some x → W.cell? (ad.add (j * 2)) = some (.int .i64 x.1) ∧ W.cell? ⟨(ad.add (j * 2)).block, (ad.add (j * 2)).off + 1, none⟩ = some (.int .i64 x.2))
theorem add_block (ad : Addr) (j : Nat) : (ad.add j).block = ad.block := by cases j <;> rfl
theorem Held.below {n : Nat} {A B : World} (h : Below n A B) {sv : Value} {zs : List (Int × Int)} : Held n A sv zs → Held n B sv zs
  | ⟨Ad, cap, e, hc⟩ => ⟨Ad, cap, e, fun hz => by
    obtain ⟨ad, ea, hb, hcell⟩ := hc hz
    refine ⟨ad, ea, hb, fun j x hx => ⟨(h.cell (p := ad.add (j * 2)) (by rw [add_block]; exact hb)).trans (hcell j x hx).1, (h.cell (p := ⟨(ad.add (j * 2)).block, (ad.add (j * 2)).off + 1, none⟩) (by show (ad.add (j * 2)).block < n; rw [add_block]; exact hb)).trans (hcell j x hx).2⟩⟩⟩

set_option maxRecDepth 100000 in
set_option maxHeartbeats 2000000 in
/-- The iterator: for every loop body that keeps what lay below n₀. -/
theorem values1_in (F : Fence) (n : Nat) (hf : F.fn 61) (hro : F.round = none) (hn : 1 ≤ n) (l Bs n₀ : Nat) (sv : Value) (zs : List (Int × Int)) (hz : zs.length ≤ 1000) (J Jx : List (Int × Int) → World → Prop)
    (hY : ∀ pre x W, J pre W → pre.length < zs.length → YieldAt F (n - 1) Try.prog l #[.agg #[.int .i64 x.1, .int .i64 x.2]] W fun e W' =>
      (e = .returned (.bool true) ∧ J (pre ++ [x]) W' ∧ Below n₀ W W') ∨ (e = .returned (.bool false) ∧ Jx (pre ++ [x]) W'))
    (W : World) (hBs : W.cell? ⟨Bs, 0, none⟩ = some sv) (hI : Held n₀ W sv zs) (hW0 : n₀ ≤ W.heap.size) (hJ : AbidesFrom W.heap.size J) (h0 : J [] W) :
    CallsIn F n Try.prog 61 #[.func (.yield l) #[] #[], .pointer (some ⟨Bs, 0, none⟩)] W fun e W' => (∃ v, e = .returned v) ∧
      ((∃ ys, ys = zs ∧ J ys W') ∨ (∃ pre, pre <+: zs ∧ Jx pre W')) := by
  obtain ⟨A, cap, rfl, hc⟩ := hI
  refine callsIn_of_wp Try.func61 rfl hf ?_ hro
  simp only [Try.ntmps61, List.size_toArray, List.length_cons, List.length_nil, Nat.reduceAdd, Nat.reduceSub, Array.replicate_succ, Array.replicate_zero, List.push_toArray, List.append_toArray, List.nil_append, List.cons_append]
  gi_wp2
  gi_loopw [4, 7] (fun _ i wr => ∃ k : Nat, k ≤ zs.length ∧ i = .int .i64 k ∧ J (zs.take k) wr ∧ Below n₀ W wr)
    (fun _ i _ => zs.length - (intOf i).toNat)
  case atStart => exact ⟨0, Nat.zero_le _, rfl, h0, Below.refl _ _⟩
  case round =>
    obtain ⟨k, hk, rfl, hJs, hnx⟩ := hrel
    by_cases hlt : k < zs.length
    · have hltz : (k : Int) < (zs.length : Int) := by omega
      obtain ⟨ad, rfl, hb, hcell⟩ := hc (by intro h; rw [h] at hlt; exact absurd hlt (Nat.not_lt_zero _))
      have hx := List.getElem?_eq_getElem hlt
      obtain ⟨c0, c1⟩ := hcell k _ hx
      have hx0 := (hnx.cell (p := ad.add (k * 2)) (by rw [add_block]; exact hb)).trans c0
      have hx1 := (hnx.cell (p := ⟨(ad.add (k * 2)).block, (ad.add (k * 2)).off + 1, none⟩) (by show (ad.add (k * 2)).block < n₀; rw [add_block]; exact hb)).trans c1
      have htk : zs.take (k + 1) = zs.take k ++ [zs[k]] := by rw [List.take_add_one, hx]; rfl
      clear c0 c1 hcell
      generalize zs[k] = x at hx hx0 hx1 htk
      obtain ⟨fn, tmps, assign, body, hy, hR⟩ := hY _ x (wr.alloc (Obj.cells #[Value.int IntKind.i64 x.1, Value.int IntKind.i64 x.2] 48)) (hJ _ wr _ none hJs (World.grownBy_alloc wr _ none) (fun r e => by cases e)) (by rw [List.length_take]; omega)
      have hsz := hnx.size
      gi_wp2
      refine hR.mono ?_
      rintro e W3 (⟨rfl, hJ3, hk3⟩ | ⟨rfl, hJx3⟩)
      · gi_wp2
        go_roundw
        case rel => exact ⟨k + 1, by omega, by simp, by rw [htk]; exact hJ3, (hnx.alloc (by omega) _).trans hk3⟩
        case measure => simp [intOf]; omega
      · gi_wp2
        refine bodyPost_ret (results_none rfl _ _ _) rfl ?_
        exact ⟨⟨_, rfl⟩, .inr ⟨_, by rw [← htk]; exact List.take_prefix _ _, hJx3⟩⟩
    · have hltz : ¬ (k : Int) < (zs.length : Int) := by omega
      gi_wp2
      go_end0
      have hJz : J zs wr := by rw [List.take_of_length_le (by omega)] at hJs; exact hJs
      exact ⟨⟨_, rfl⟩, .inl (by first | exact hJz | exact ⟨zs, rfl, hJz⟩)⟩

set_option maxHeartbeats 1000000 in
/-- slices.Values: the slice value is boxed; the function value captures the box. -/
theorem values_in (F : Fence) (n : Nat) (hf : F.fn 49) (hro : F.round = none) (a : Option Addr) (len cap : Nat) (w : World) :
    CallsIn F n Try.prog 49 #[.slice a len cap] w fun e w' => e = .returned (.func (.func 61) #[] #[.pointer (some ⟨w.heap.size, 0, none⟩)]) ∧ w' = w.alloc (.cells #[.slice a len cap] 30) := by
  refine callsIn_of_wp Try.func49 rfl hf ?_ hro
  simp only [Try.ntmps49, List.size_toArray, List.length_cons, List.length_nil, Nat.reduceAdd, Nat.reduceSub, Array.replicate_succ, Array.replicate_zero, List.push_toArray, List.append_toArray, List.nil_append, List.cons_append]
  gi_wp2
  go_ret
  exact ⟨rfl, rfl⟩

theorem values_stops (F : Fence) (n : Nat) (hf : F.fn 61) (hro : F.round = none) (hn : 1 ≤ n) (Bs n₀ : Nat) (sv : Value) (zs : List (Int × Int)) (hz : zs.length ≤ 1000) (w : World) (hBs : Bs < w.heap.size) (hn₀ : n₀ ≤ w.heap.size)
    (hc : w.cell? ⟨Bs, 0, none⟩ = some sv) (hI : Held n₀ w sv zs) :
    SeqStopsK F n Try.prog 61 #[.pointer (some ⟨Bs, 0, none⟩)] (fun x : Int × Int => #[Value.agg #[.int .i64 x.1, .int .i64 x.2]]) (Below n₀) (fun ys => ys = zs) (fun pre => pre <+: zs) zs.length w := fun l J Jx W hW hJ _ hY h0 =>
  values1_in F n hf hro hn l Bs n₀ sv zs hz J Jx hY W ((hW.cell (p := ⟨Bs, 0, none⟩) hBs).trans hc) (hI.below (hW.mono hn₀)) (Nat.le_trans hn₀ hW.size) hJ h0
end Go.Proofs.YtchlnmkjfjdamaaSrt

/- The statement of FnExactJoinSpans, out of its pure statement and the walk of the code. No condition of its own. -/
import Derived.Test.YtchlnmkjfjdamaaRows
import Derived.Test.YtchlnmkjfjdamaaF2
import Derived.Test.YtchlnmkjfjdamaaPureFnExactJoinSpans
import Derived.Test.YtchlnmkjfjdamaaRk
import Derived.WalkKit
import Derived.ProofKit
import Derived.OpenShut
import Derived.ShutString
import Derived.ChangeOld
import Derived.Below
import Derived.SizedLaws
import Derived.Carry
import Derived.Test.YtchlnmkjfjdamaaRs
namespace Go.Proofs.Ytchlnmkjfjdamaa.fnExactJoinSpans
open Go.ChangeShapes Go.WideShapes Go.ChangeAt Go.RowKit Go.Proofs.YtchlnmkjfjdamaaRk Go.Proofs.YtchlnmkjfjdamaaW.PrintWords
open Go.ChangeMaps (open_string shut_string)
set_option linter.unusedVariables false
theorem own : ownKnob Try.prog.godebug = none := by kernel_rfl
theorem laidOut : laidOutB Try.prog = true := by kernel_rfl
theorem el50 {H : Type} {enc : TypeId × Value → H} {w : World} {base : Nat} {spare : Nat → Bool} {held : Bool} {n : Nat} {cs : List Value} {y : DataW H × List MemPlace} (h : DataW.trod enc Try.prog w base spare held n 50 cs = some y) : ∃ x : F.S50, cs = [.int .i64 x.f0, .int .i64 x.f1] ∧ ((Lit.int .i64 x.f0).wf = true ∧ (Lit.int .i64 x.f1).wf = true) := by
  obtain ⟨hl, m, hf⟩ := Go.Proofs.YtchlnmkjfjdamaaRs.elem_struct Try.underlying50 (by kernel_rfl) (by kernel_rfl) h
  obtain ⟨c0, y0, e0, t0⟩ := hf 0 _ rfl
  obtain ⟨a0, z0, _, w0⟩ := DataW.trod_int Try.underlying3 t0
  obtain rfl := one_of z0
  obtain ⟨c1, y1, e1, t1⟩ := hf 1 _ rfl
  obtain ⟨a1, z1, _, w1⟩ := DataW.trod_int Try.underlying3 t1
  obtain rfl := one_of z1
  obtain rfl := list2 hl e0 e1
  exact ⟨⟨a0, a1⟩, rfl, ⟨w0, w1⟩⟩
set_option maxRecDepth 100000 in
theorem lifted (os : Os) (started : os.Started) (H : Type) (enc : TypeId × Value → H) :
    ReturnsInHanded {} Try.checked os 6 .any (Rows.fnExactJoinSpansSpec.pre6 enc Try.prog Try.f6 Rows.fnExactJoinSpansRow.domain false) (Rows.fnExactJoinSpansSpec.post enc Try.prog Try.f6 false true false false) := by
  refine returnsInHanded_of_change_sized (C := Try.checked) own started (by kernel_rfl) Try.func6
    (ChangeSpec.witness6 (enc := enc) (C := Try.checked) false ⟨#[], #[.slice none 0 0, .int .i64 0], []⟩ 8 (by kernel_rfl) (by kernel_rfl) (by kernel_rfl) (by kernel_rfl)) ?_
  intro W base args ds gs before hval0 hW hcnd hsz0 _
  have hsz : (DataW.weightsEach Try.prog (Try.f6.params.toList ++ Rows.fnExactJoinSpansSpec.plain.varTypes Try.prog) (ds ++ gs)).all (· ≤ reachBytes) = true := hsz0
  have hval : ∀ (j : Nat) t v, Try.f6.params[j]? = some t → args[j]? = some v → Value.okWide Try.prog W .any base t v := hval0
  have hW' := hW
  obtain ⟨p, q, hA0, hV, rfl, hfz, hnd⟩ := hW
  have hA : DataW.TrodAll enc Try.prog W 0 (fun _ => true) true Try.f6.params.toList args.toList ds p := hA0
  rw [Try.params6] at hA hval hsz
  obtain ⟨v0, vs0, d0, ds0, p0, q0, hargs, rfl, rfl, h0, r0⟩ := trodAll_cons hA
  obtain ⟨v1, vs1, d1, ds1, p1, q1, rfl, rfl, rfl, h1, r1⟩ := trodAll_cons r0
  obtain ⟨rfl, rfl, rfl⟩ := trodAll_nil r1
  obtain rfl : args = #[v0, v1] := by cases args; simp_all
  obtain ⟨rfl, rfl⟩ := trodVars_none hV
  have k0 := h0
  have lt0 := trod_blocks h0
  obtain ⟨a0, len0, cap0, rfl⟩ := okWide_slice Try.underlying25 (hval 0 25 v0 rfl rfl)
  obtain ⟨m0, hf0⟩ := h0
  obtain ⟨A0, l0, c0, hv0, hc0, hr0, hg0⟩ := Go.Proofs.YtchlnmkjfjdamaaRs.open_row F.k50 (fun x : F.S50 => [.int .i64 x.f0, .int .i64 x.f1]) (fun x : F.S50 => (Lit.int .i64 x.f0).wf = true ∧ (Lit.int .i64 x.f1).wf = true) Try.underlying25 (by kernel_rfl) (fun w x => F.k50_mk w x) (fun _ => rfl) (fun _ _ _ h_ => el50 h_) hf0
  simp [Value.cells] at hv0
  obtain ⟨rfl, rfl, rfl⟩ := hv0
  obtain ⟨a1, rfl, rfl, rfl, w1⟩ := open_int Try.underlying3 (hval 1 3 v1 rfl rfl) h1
  clear hA0 hval0 hsz0 hsz
  obtain ⟨k, h⟩ := Pure.FnExactJoinSpans l0 a1 hr0.2.1 hg0 w1
  refine (F.laws_FnExactJoinSpans.calls k a0 cap0 l0 a1 true W hr0 hc0 h).mono fun e W' ⟨he, bel0⟩ => ?_
  subst he
  have bel : Below W.heap.size W W' := bel0
  exact ⟨_, rfl, _, _, _, [], _, [], hW', trodAll_mk1 (shut_bool Try.underlying4 _), (trodAll_cons_mk (Below.trod laidOut (by kernel_rfl) (of_decide_eq_true (by kernel_rfl)) k0 bel lt0) (trodAll_cons_mk (shut_int Try.underlying3 w1) trodAll_mk0)), rfl, bel.frame _, fun h => by cases h⟩
theorem over : Rows.fnExactJoinSpansRow.holds Try.pinned (OpenSpec.ofChange Rows.fnExactJoinSpansSpec) :=
  OpenClaim.holds_of_wide 6 Try.f6 rfl rfl rfl rfl rfl rfl rfl ⟨rfl, rfl, rfl, rfl, rfl⟩ rfl rfl rfl rfl rfl (by kernel_rfl) Try.func6 (by kernel_rfl)
    (of_decide_eq_true (by kernel_rfl)) (by unfold Func.isWrapper; first | (rw [if_pos (by decide +kernel)]; kernel_rfl) | (rw [if_neg (by decide +kernel)]; exact ⟨rfl, rfl⟩))
    (fun os started H enc _ => lifted os started H enc)
theorem proved : Rows.FnExactJoinSpansSaid := over
#print axioms proved
end Go.Proofs.Ytchlnmkjfjdamaa.fnExactJoinSpans
namespace Go.Proofs.Ytchlnmkjfjdamaa
/-- The statement, under a short name, for the claim. -/
theorem fnExactJoinSpans_holds : Rows.FnExactJoinSpansSaid := fnExactJoinSpans.proved
end Go.Proofs.Ytchlnmkjfjdamaa

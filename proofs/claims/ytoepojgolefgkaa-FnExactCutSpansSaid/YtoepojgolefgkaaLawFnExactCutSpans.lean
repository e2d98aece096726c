/- The statement of FnExactCutSpans, out of its pure statement and the walk of the code. No condition of its own. -/
import Derived.Test.YtoepojgolefgkaaRows
import Derived.Test.YtoepojgolefgkaaF5
import Derived.Test.YtoepojgolefgkaaPureFnExactCutSpans
import Derived.Test.YtoepojgolefgkaaRk
import Derived.WalkKit
import Derived.ProofKit
import Derived.OpenShut
import Derived.ShutString
import Derived.ChangeOld
import Derived.Below
import Derived.SizedLaws
import Derived.Carry
import Derived.Test.YtoepojgolefgkaaRs
namespace Go.Proofs.Ytoepojgolefgkaa.fnExactCutSpans
open Go.ChangeShapes Go.WideShapes Go.ChangeAt Go.RowKit Go.Proofs.YtoepojgolefgkaaRk Go.Proofs.YtoepojgolefgkaaW.PrintWords
open Go.ChangeMaps (open_string shut_string)
set_option linter.unusedVariables false
theorem own : ownKnob Try.prog.godebug = none := by kernel_rfl
theorem laidOut : laidOutB Try.prog = true := by kernel_rfl
theorem el68 {H : Type} {enc : TypeId × Value → H} {w : World} {base : Nat} {spare : Nat → Bool} {held : Bool} {n : Nat} {cs : List Value} {y : DataW H × List MemPlace} (h : DataW.trod enc Try.prog w base spare held n 68 cs = some y) : ∃ x : F.S68, cs = [.int .i64 x.f0, .int .i64 x.f1] ∧ ((Lit.int .i64 x.f0).wf = true ∧ (Lit.int .i64 x.f1).wf = true) := by
  obtain ⟨hl, m, hf⟩ := Go.Proofs.YtoepojgolefgkaaRs.elem_struct Try.underlying68 (by kernel_rfl) (by kernel_rfl) h
  obtain ⟨c0, y0, e0, t0⟩ := hf 0 _ rfl
  obtain ⟨a0, z0, _, w0⟩ := DataW.trod_int Try.underlying3 t0
  obtain rfl := one_of z0
  obtain ⟨c1, y1, e1, t1⟩ := hf 1 _ rfl
  obtain ⟨a1, z1, _, w1⟩ := DataW.trod_int Try.underlying3 t1
  obtain rfl := one_of z1
  obtain rfl := list2 hl e0 e1
  exact ⟨⟨a0, a1⟩, rfl, ⟨w0, w1⟩⟩
set_option maxRecDepth 100000 in
theorem lifted (os : Os) (started : os.Started) (H : Type) (enc : TypeId × Value → H) :
    ReturnsInHanded {} Try.checked os 6 .any (Rows.fnExactCutSpansSpec.pre6 enc Try.prog Try.f6 Rows.fnExactCutSpansRow.domain false) (Rows.fnExactCutSpansSpec.post enc Try.prog Try.f6 false true false false) := by
  refine returnsInHanded_of_change_sized (C := Try.checked) own started (by kernel_rfl) Try.func6
    (ChangeSpec.witness6 (enc := enc) (C := Try.checked) false ⟨#[], #[.string ByteArray.empty, .slice none 0 0], []⟩ 8 (by kernel_rfl) (by kernel_rfl) (by kernel_rfl) (by kernel_rfl)) ?_
  intro W base args ds gs before hval0 hW hcnd hsz0 _
  have hsz : (DataW.weightsEach Try.prog (Try.f6.params.toList ++ Rows.fnExactCutSpansSpec.plain.varTypes Try.prog) (ds ++ gs)).all (· ≤ reachBytes) = true := hsz0
  have hval : ∀ (j : Nat) t v, Try.f6.params[j]? = some t → args[j]? = some v → Value.okWide Try.prog W .any base t v := hval0
  have hW' := hW
  obtain ⟨p, q, hA0, hV, rfl, hfz, hnd⟩ := hW
  have hA : DataW.TrodAll enc Try.prog W 0 (fun _ => true) true Try.f6.params.toList args.toList ds p := hA0
  rw [Try.params6] at hA hval hsz
  obtain ⟨v0, vs0, d0, ds0, p0, q0, hargs, rfl, rfl, h0, r0⟩ := trodAll_cons hA
  obtain ⟨v1, vs1, d1, ds1, p1, q1, rfl, rfl, rfl, h1, r1⟩ := trodAll_cons r0
  obtain ⟨rfl, rfl, rfl⟩ := trodAll_nil r1
  obtain rfl : args = #[v0, v1] := by cases args; simp_all
  obtain ⟨rfl, rfl⟩ := trodVars_none hV
  obtain ⟨a0, rfl, rfl, rfl, w0⟩ := open_string Try.underlying9 (hval 0 9 v0 rfl rfl) h0
  have k1 := h1
  have lt1 := trod_blocks h1
  obtain ⟨a1, len1, cap1, rfl⟩ := okWide_slice Try.underlying36 (hval 1 36 v1 rfl rfl)
  obtain ⟨m1, hf1⟩ := h1
  obtain ⟨A1, l1, c1, hv1, hc1, hr1, hg1⟩ := Go.Proofs.YtoepojgolefgkaaRs.open_row F.k68 (fun x : F.S68 => [.int .i64 x.f0, .int .i64 x.f1]) (fun x : F.S68 => (Lit.int .i64 x.f0).wf = true ∧ (Lit.int .i64 x.f1).wf = true) Try.underlying36 (by kernel_rfl) (fun w x => F.k68_mk w x) (fun _ => rfl) (fun _ _ _ h_ => el68 h_) hf1
  simp [Value.cells] at hv1
  obtain ⟨rfl, rfl, rfl⟩ := hv1
  clear hA0 hval0 hsz0 hsz
  obtain ⟨k, h⟩ := Pure.FnExactCutSpans a0 l1 w0 hr1.2.1 hg1
  refine (F.laws_FnExactCutSpans.calls k a0 a1 cap1 l1 true W hr1 hc1 h).mono fun e W' ⟨he, bel0⟩ => ?_
  subst he
  have bel : Below W.heap.size W W' := bel0
  exact ⟨_, rfl, _, _, _, [], _, [], hW', trodAll_mk1 (shut_bool Try.underlying4 _), (trodAll_cons_mk (shut_string Try.underlying9 w0) (trodAll_cons_mk (Below.trod laidOut (by kernel_rfl) (of_decide_eq_true (by kernel_rfl)) k1 bel lt1) trodAll_mk0)), rfl, bel.frame _, fun h => by cases h⟩
theorem over : Rows.fnExactCutSpansRow.holds Try.pinned (OpenSpec.ofChange Rows.fnExactCutSpansSpec) :=
  OpenClaim.holds_of_wide 6 Try.f6 rfl rfl rfl rfl rfl rfl rfl ⟨rfl, rfl, rfl, rfl, rfl⟩ rfl rfl rfl rfl rfl (by kernel_rfl) Try.func6 (by kernel_rfl)
    (of_decide_eq_true (by kernel_rfl)) (by unfold Func.isWrapper; first | (rw [if_pos (by decide +kernel)]; kernel_rfl) | (rw [if_neg (by decide +kernel)]; exact ⟨rfl, rfl⟩))
    (fun os started H enc _ => lifted os started H enc)
theorem proved : Rows.FnExactCutSpansSaid := over
#print axioms proved
end Go.Proofs.Ytoepojgolefgkaa.fnExactCutSpans
namespace Go.Proofs.Ytoepojgolefgkaa
/-- The statement, under a short name, for the claim. -/
theorem fnExactCutSpans_holds : Rows.FnExactCutSpansSaid := fnExactCutSpans.proved
end Go.Proofs.Ytoepojgolefgkaa

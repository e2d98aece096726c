/- The statement of FnExactLengthOf, out of its pure statement and the walk of the code. No condition of its own. -/
import Derived.Test.YtebdamodeonbeaaDoorRows
import Derived.Test.YtebdamodeonbeaaDoorF3
import Derived.Test.YtebdamodeonbeaaDoorPureFnExactLengthOf
import Derived.Test.YtebdamodeonbeaaDoorRk
import Derived.WalkKit
import Derived.ProofKit
import Derived.OpenShut
import Derived.ShutString
import Derived.ChangeOld
import Derived.Below
import Derived.SizedLaws
import Derived.Carry
import Derived.Test.YtebdamodeonbeaaDoorRd
import Derived.Test.YtebdamodeonbeaaDoorCards
import Derived.Test.YtebdamodeonbeaaDoorTie
import Derived.SevenTiedAt
import Derived.Test.YtebdamodeonbeaaDoorRs
import Derived.Lay
namespace Go.Proofs.YtebdamodeonbeaaDoor.fnExactLengthOf
open Go.ChangeShapes Go.WideShapes Go.ChangeAt Go.RowKit Go.Proofs.YtebdamodeonbeaaDoorRk Go.Proofs.YtebdamodeonbeaaDoorW.PrintWords
open Go.ChangeMaps (open_string shut_string)
set_option linter.unusedVariables false
theorem own : ownKnob Tryd.prog.godebug = none := by kernel_rfl
theorem laidOut : laidOutB Tryd.prog = true := by kernel_rfl
theorem el32 {H : Type} {enc : TypeId × Value → H} {w : World} {base : Nat} {spare : Nat → Bool} {held : Bool} {n : Nat} {cs : List Value} {y : DataW H × List MemPlace} (h : DataW.trod enc Tryd.prog w base spare held n 32 cs = some y) : ∃ x : F.S32, cs = [.string x.f0, .string x.f1] ∧ (x.f0.size ≤ 9223372036854775807 ∧ x.f1.size ≤ 9223372036854775807) := by
  obtain ⟨hl, m, hf⟩ := Go.Proofs.YtebdamodeonbeaaDoorRs.elem_struct Tryd.underlying32 (by kernel_rfl) (by kernel_rfl) h
  obtain ⟨c0, y0, e0, t0⟩ := hf 0 _ rfl
  obtain ⟨a0, z0, _, w0⟩ := DataW.trod_string Tryd.underlying9 t0
  obtain rfl := one_of z0
  obtain ⟨c1, y1, e1, t1⟩ := hf 1 _ rfl
  obtain ⟨a1, z1, _, w1⟩ := DataW.trod_string Tryd.underlying9 t1
  obtain rfl := one_of z1
  obtain rfl := list2 hl e0 e1
  exact ⟨⟨a0, a1⟩, rfl, ⟨w0, w1⟩⟩
/-- The listed variables laid as they are listed. -/
theorem door_met (os : Os) (args : Array Value) : laidMetH Tryd.prog Rows.fnExactLengthOfRow.laid ((World.laidAll Tryd.prog os Rows.fnExactLengthOfRow.laid).forCall (fun _ _ => 0) ⟨#[], args, []⟩).memory := by
  rw [MakeChecks.laidMetH_plain _ _ _ (by kernel_rfl)]; exact laidMet_laidAll _ (by kernel_rfl) (by kernel_rfl)
set_option maxRecDepth 100000 in
theorem lifted (os : Os) (started : os.Started) (H : Type) (enc : TypeId × Value → H) :
    ReturnsInHanded {} Tryd.checked os 3 .any (fun w args => (Rows.fnExactLengthOfSpec.pre enc Tryd.prog Tryd.f3 Rows.fnExactLengthOfRow.domain false w args ∧ laidMetH Tryd.prog Rows.fnExactLengthOfRow.laid w) ∧ sizedMet enc Tryd.prog Tryd.f3 (OpenSpec.ofChange Rows.fnExactLengthOfSpec) false w args) (Rows.fnExactLengthOfSpec.post enc Tryd.prog Tryd.f3 false true false false) := by
  refine Go.Proofs.YtebdamodeonbeaaDoorRd.laid_shaped (C := Tryd.checked) own started (by kernel_rfl) Tryd.func3
    (ChangeSpec.witness_shaped (enc := enc) (C := Tryd.checked) (os := os) (X := fun w _ => laidMetH Tryd.prog Rows.fnExactLengthOfRow.laid w) false (World.laidAll Tryd.prog os Rows.fnExactLengthOfRow.laid) #[.slice none 0 0] 8 (World.laidAll_os _ _ _) (World.shaped_of_ZipB (by kernel_rfl) (by kernel_rfl)) (by kernel_rfl) (by kernel_rfl) (by kernel_rfl) (door_met os _)) ?_
  intro W base args ds gs before hval0 hW hcnd hsz0 hL hsh _
  obtain ⟨psL, hLV, _⟩ : laidMet Tryd.prog Rows.fnExactLengthOfRow.laid W := by have h_ := hL; rw [MakeChecks.laidMetH_plain _ _ _ (by kernel_rfl)] at h_; exact h_
  have hsz : (DataW.weightsEach Tryd.prog (Tryd.f3.params.toList ++ Rows.fnExactLengthOfSpec.plain.varTypes Tryd.prog) (ds ++ gs)).all (· ≤ reachBytes) = true := hsz0
  have hval : ∀ (j : Nat) t v, Tryd.f3.params[j]? = some t → args[j]? = some v → Value.okWide Tryd.prog W .any base t v := hval0
  have hW' := hW
  obtain ⟨p, q, hA0, hV, rfl, hfz, hnd⟩ := hW
  have hA : DataW.TrodAll enc Tryd.prog W 0 (fun _ => true) true Tryd.f3.params.toList args.toList ds p := hA0
  rw [Tryd.params3] at hA hval hsz
  obtain ⟨v0, vs0, d0, ds0, p0, q0, hargs, rfl, rfl, h0, r0⟩ := trodAll_cons hA
  obtain ⟨rfl, rfl, rfl⟩ := trodAll_nil r0
  obtain rfl : args = #[v0] := by cases args; simp_all
  obtain ⟨rfl, rfl⟩ := trodVars_none hV
  have k0 := h0
  have lt0 := trod_blocks h0
  obtain ⟨a0, len0, cap0, rfl⟩ := okWide_slice Tryd.underlying22 (hval 0 22 v0 rfl rfl)
  obtain ⟨m0, hf0⟩ := h0
  obtain ⟨A0, l0, c0, hv0, hc0, hr0, hg0⟩ := Go.Proofs.YtebdamodeonbeaaDoorRs.open_row F.k32 (fun x : F.S32 => [.string x.f0, .string x.f1]) (fun x : F.S32 => x.f0.size ≤ 9223372036854775807 ∧ x.f1.size ≤ 9223372036854775807) Tryd.underlying22 (by kernel_rfl) (fun w x => F.k32_mk w x) (fun _ => rfl) (fun _ _ _ h_ => el32 h_) hf0
  simp [Value.cells] at hv0
  obtain ⟨rfl, rfl, rfl⟩ := hv0
  clear hA0 hval0 hsz0 hsz
  obtain ⟨k, h⟩ := Pure.FnExactLengthOf l0 hr0.2.1 hg0
  refine (F.laws_FnExactLengthOf.calls k a0 cap0 l0 true W hr0 hc0 (Go.Proofs.YtebdamodeonbeaaDoorRd.laidE (n1 := "*errors.errorString") (d1 := (.ptr (.agg [.lit (.string [105, 110, 118, 97, 108, 105, 100, 32, 115, 121, 110, 116, 97, 120])]))) (n2 := "*errors.errorString") (d2 := (.ptr (.agg [.lit (.string [118, 97, 108, 117, 101, 32, 111, 117, 116, 32, 111, 102, 32, 114, 97, 110, 103, 101])]))) hLV (List.mem_of_getElem? (i := 5) (by kernel_rfl)) (List.mem_of_getElem? (i := 4) (by kernel_rfl))) h).mono fun e W' ⟨he, bel0⟩ => ?_
  subst he
  have bel : Below W.heap.size W W' := bel0
  exact ⟨_, rfl, _, _, _, [], _, [], hW', trodAll_mk1 (shut_bool Tryd.underlying4 _), (trodAll_cons_mk (Below.trod laidOut (by kernel_rfl) (of_decide_eq_true (by kernel_rfl)) k0 bel lt0) trodAll_mk0), rfl, bel.frame _, fun h => by cases h⟩
theorem over : Rows.fnExactLengthOfRow.holds Tryd.pinned (OpenSpec.ofChange Rows.fnExactLengthOfSpec) :=
  OpenClaim.holds_of_wide 3 Tryd.f3 rfl rfl rfl rfl rfl rfl rfl ⟨rfl, rfl, rfl, rfl, rfl⟩ rfl rfl rfl rfl rfl (by kernel_rfl) Tryd.func3 (by kernel_rfl)
    (of_decide_eq_true (by kernel_rfl)) (by unfold Func.isWrapper; first | (rw [if_pos (by decide +kernel)]; kernel_rfl) | (rw [if_neg (by decide +kernel)]; exact ⟨rfl, rfl⟩))
    (fun os started H enc _ => lifted os started H enc)
theorem proved : Rows.FnExactLengthOfSaid := over
#print axioms proved
end Go.Proofs.YtebdamodeonbeaaDoor.fnExactLengthOf
namespace Go.Proofs.YtebdamodeonbeaaDoor
/-- The statement, under a short name, for the claim. -/
theorem fnExactLengthOf_holds : Rows.FnExactLengthOfCardSaid :=
  Claim7.holds_tied_plain_at .later [] [.data, .data, .data, .data, .sentinel, .sentinel, .pinned] true (true, "8753f6a486e833006b1b3e4c9efc4fa3318959cd39aa507d3b23752b3093c474") true
    fnExactLengthOf.proved (fun _ h => by cases h) (by kernel_rfl) (fun _ h => by cases h) fnExactLengthOf_row_tie rfl ⟨rfl, rfl⟩ (by kernel_rfl) rfl
    (fun f fn hf hfn => by
      obtain rfl : f = 3 := Option.some.inj ((show Tryd.prog.funcNamed "loop.example/g00256/laws.FnExactLengthOf" = some 3 by kernel_rfl).symm.trans hf) |>.symm
      obtain rfl : fn = Tryd.f3 := (Option.some.inj (Tryd.func3.symm.trans hfn)).symm
      exact ⟨by kernel_rfl, fun j t ht => by
        rw [Tryd.params3] at ht
        have hm : t ∈ [22] := by simpa using Array.mem_of_getElem? ht
        have hall : ([22].all fun u => !Tryd.prog.wantsStandIn u) = true := by kernel_rfl
        exact (show Tryd.prog.wantsStandIn t = false by simpa using List.all_eq_true.1 hall t hm)⟩)
    (by kernel_rfl)
end Go.Proofs.YtebdamodeonbeaaDoor

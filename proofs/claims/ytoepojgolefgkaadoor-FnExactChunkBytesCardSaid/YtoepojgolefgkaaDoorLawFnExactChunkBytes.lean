/- The statement of FnExactChunkBytes, out of its pure statement and the walk of the code. No condition of its own. -/
import Derived.Test.YtoepojgolefgkaaDoorRows
import Derived.Test.YtoepojgolefgkaaDoorF1
import Derived.Test.YtoepojgolefgkaaDoorPureFnExactChunkBytes
import Derived.Test.YtoepojgolefgkaaDoorRk
import Derived.WalkKit
import Derived.ProofKit
import Derived.OpenShut
import Derived.ShutString
import Derived.ChangeOld
import Derived.Below
import Derived.SizedLaws
import Derived.Carry
import Derived.Test.YtoepojgolefgkaaDoorRd
import Derived.Test.YtoepojgolefgkaaDoorCards
import Derived.Test.YtoepojgolefgkaaDoorTie
import Derived.SevenTiedAt
import Derived.Test.YtoepojgolefgkaaDoorRs
namespace Go.Proofs.YtoepojgolefgkaaDoor.fnExactChunkBytes
open Go.ChangeShapes Go.WideShapes Go.ChangeAt Go.RowKit Go.Proofs.YtoepojgolefgkaaDoorRk Go.Proofs.YtoepojgolefgkaaDoorW.PrintWords
open Go.ChangeMaps (open_string shut_string)
set_option linter.unusedVariables false
theorem own : ownKnob Tryd.prog.godebug = none := by kernel_rfl
theorem laidOut : laidOutB Tryd.prog = true := by kernel_rfl
theorem el9 {H : Type} {enc : TypeId × Value → H} {w : World} {base : Nat} {spare : Nat → Bool} {held : Bool} {n : Nat} {cs : List Value} {y : DataW H × List MemPlace} (h : DataW.trod enc Tryd.prog w base spare held n 9 cs = some y) : ∃ x : ByteArray, cs = [.string x] ∧ x.size ≤ 9223372036854775807 := by
  obtain ⟨a, rfl, _, hw⟩ := DataW.trod_string Tryd.underlying9 h
  exact ⟨a, rfl, hw⟩
/-- The heap that the door's own run leaves bears what is listed. -/
theorem door_met (os : Os) (args : Array Value) : laidMetH Tryd.prog Rows.fnExactChunkBytesRow.laid ((World.doorLaid Tryd.prog 400 os).forCall (fun _ _ => 0) ⟨#[], args, []⟩).memory :=
  laidMetH_of_parts3 (fuel := 8) (laidMet_of_run' 8 (by kernel_rfl) (by kernel_rfl)) (by kernel_rfl) (by kernel_rfl)
set_option maxRecDepth 100000 in
theorem lifted (os : Os) (started : os.Started) (H : Type) (enc : TypeId × Value → H) :
    ReturnsInHanded {} Tryd.checked os 4 .any (fun w args => (Rows.fnExactChunkBytesSpec.pre enc Tryd.prog Tryd.f4 Rows.fnExactChunkBytesRow.domain false w args ∧ laidMetH Tryd.prog Rows.fnExactChunkBytesRow.laid w) ∧ sizedMet enc Tryd.prog Tryd.f4 (OpenSpec.ofChange Rows.fnExactChunkBytesSpec) false w args) (Rows.fnExactChunkBytesSpec.post enc Tryd.prog Tryd.f4 false true false false) := by
  refine Go.Proofs.YtoepojgolefgkaaDoorRd.laid_shaped (C := Tryd.checked) own started (by kernel_rfl) Tryd.func4
    (ChangeSpec.witness_shaped (enc := enc) (C := Tryd.checked) (os := os) (X := fun w _ => laidMetH Tryd.prog Rows.fnExactChunkBytesRow.laid w) false (World.doorLaid Tryd.prog 400 os) #[.slice none 0 0] 8 rfl (World.shaped_of_RefB (by kernel_rfl) (by kernel_rfl)) (by kernel_rfl) (by kernel_rfl) (by kernel_rfl) (door_met os _)) ?_
  intro W base args ds gs before hval0 hW hcnd hsz0 hL hsh _
  obtain ⟨psL, hLV, _⟩ : laidMet Tryd.prog Rows.fnExactChunkBytesRow.laid W := by have h_ := hL; rw [MakeChecks.laidMetH_plain _ _ _ (by kernel_rfl)] at h_; exact h_
  have hsz : (DataW.weightsEach Tryd.prog (Tryd.f4.params.toList ++ Rows.fnExactChunkBytesSpec.plain.varTypes Tryd.prog) (ds ++ gs)).all (· ≤ reachBytes) = true := hsz0
  have hval : ∀ (j : Nat) t v, Tryd.f4.params[j]? = some t → args[j]? = some v → Value.okWide Tryd.prog W .any base t v := hval0
  have hW' := hW
  obtain ⟨p, q, hA0, hV, rfl, hfz, hnd⟩ := hW
  have hA : DataW.TrodAll enc Tryd.prog W 0 (fun _ => true) true Tryd.f4.params.toList args.toList ds p := hA0
  rw [Tryd.params4] at hA hval hsz
  obtain ⟨v0, vs0, d0, ds0, p0, q0, hargs, rfl, rfl, h0, r0⟩ := trodAll_cons hA
  obtain ⟨rfl, rfl, rfl⟩ := trodAll_nil r0
  obtain rfl : args = #[v0] := by cases args; simp_all
  obtain ⟨rfl, rfl⟩ := trodVars_none hV
  have k0 := h0
  have lt0 := trod_blocks h0
  obtain ⟨a0, len0, cap0, rfl⟩ := okWide_slice Tryd.underlying25 (hval 0 25 v0 rfl rfl)
  obtain ⟨m0, hf0⟩ := h0
  obtain ⟨A0, l0, c0, hv0, hc0, hr0, hg0⟩ := Go.Proofs.YtoepojgolefgkaaDoorRs.open_row Kd.string (fun x : ByteArray => [.string x]) (fun x : ByteArray => x.size ≤ 9223372036854775807) Tryd.underlying25 (by kernel_rfl) (fun _ _ => rfl) (fun _ => rfl) (fun _ _ _ h_ => el9 h_) hf0
  simp [Value.cells] at hv0
  obtain ⟨rfl, rfl, rfl⟩ := hv0
  clear hA0 hval0 hsz0 hsz
  obtain ⟨k, h⟩ := Pure.FnExactChunkBytes l0 hr0.2.1 hg0
  refine (F.laws_FnExactChunkBytes.calls k a0 cap0 l0 true W hr0 hc0 (Go.Proofs.YtoepojgolefgkaaDoorRd.laidB hLV (List.mem_of_getElem? (i := 1) (by kernel_rfl))) h).mono fun e W' ⟨he, bel0⟩ => ?_
  subst he
  have bel : Below W.heap.size W W' := bel0
  exact ⟨_, rfl, _, _, _, [], _, [], hW', trodAll_mk1 (shut_bool Tryd.underlying4 _), (trodAll_cons_mk (Below.trod laidOut (by kernel_rfl) (of_decide_eq_true (by kernel_rfl)) k0 bel lt0) trodAll_mk0), rfl, bel.frame _, fun h => by cases h⟩
theorem over : Rows.fnExactChunkBytesRow.holds Tryd.pinned (OpenSpec.ofChange Rows.fnExactChunkBytesSpec) :=
  OpenClaim.holds_of_wide 4 Tryd.f4 rfl rfl rfl rfl rfl rfl rfl ⟨rfl, rfl, rfl, rfl, rfl⟩ rfl rfl rfl rfl rfl (by kernel_rfl) Tryd.func4 (by kernel_rfl)
    (of_decide_eq_true (by kernel_rfl)) (by unfold Func.isWrapper; first | (rw [if_pos (by decide +kernel)]; kernel_rfl) | (rw [if_neg (by decide +kernel)]; exact ⟨rfl, rfl⟩))
    (fun os started H enc _ => lifted os started H enc)
theorem proved : Rows.FnExactChunkBytesSaid := over
#print axioms proved
end Go.Proofs.YtoepojgolefgkaaDoor.fnExactChunkBytes
namespace Go.Proofs.YtoepojgolefgkaaDoor
/-- The statement, under a short name, for the claim. -/
theorem fnExactChunkBytes_holds : Rows.FnExactChunkBytesCardSaid :=
  Claim7.holds_tied_plain_at .later [] [.data, .data, .data] true (true, "68ef79d9803704d51f10fc539848d42556d3eccd507ab484685ae3595edf321d") false
    fnExactChunkBytes.proved (fun _ h => by cases h) (by kernel_rfl) (fun _ h => by cases h) fnExactChunkBytes_row_tie rfl ⟨rfl, rfl⟩ (by kernel_rfl) rfl
    (fun f fn hf hfn => by
      obtain rfl : f = 4 := Option.some.inj ((show Tryd.prog.funcNamed "loop.example/g00256/laws.FnExactChunkBytes" = some 4 by kernel_rfl).symm.trans hf) |>.symm
      obtain rfl : fn = Tryd.f4 := (Option.some.inj (Tryd.func4.symm.trans hfn)).symm
      exact ⟨by kernel_rfl, fun j t ht => by
        rw [Tryd.params4] at ht
        have hm : t ∈ [25] := by simpa using Array.mem_of_getElem? ht
        have hall : ([25].all fun u => !Tryd.prog.wantsStandIn u) = true := by kernel_rfl
        exact (show Tryd.prog.wantsStandIn t = false by simpa using List.all_eq_true.1 hall t hm)⟩)
    (by kernel_rfl)
end Go.Proofs.YtoepojgolefgkaaDoor

/- The statement of FnExactDateText, out of its pure statement and the walk of the code. No condition of its own. -/
import Derived.Test.YtehflacblgliiaaDoorRows
import Derived.Test.YtehflacblgliiaaDoorF4
import Derived.Test.YtehflacblgliiaaDoorPureFnExactDateText
import Derived.Test.YtehflacblgliiaaDoorRk
import Derived.WalkKit
import Derived.ProofKit
import Derived.OpenShut
import Derived.ShutString
import Derived.ChangeOld
import Derived.Below
import Derived.SizedLaws
import Derived.Carry
import Derived.Test.YtehflacblgliiaaDoorRd
import Derived.Test.YtehflacblgliiaaDoorCards
import Derived.Test.YtehflacblgliiaaDoorTie
import Derived.SevenTiedAt
namespace Go.Proofs.YtehflacblgliiaaDoor.fnExactDateText
open Go.ChangeShapes Go.WideShapes Go.ChangeAt Go.RowKit Go.Proofs.YtehflacblgliiaaDoorRk
open Go.ChangeMaps (open_string shut_string)
set_option linter.unusedVariables false
theorem own : ownKnob Tryd.prog.godebug = none := by kernel_rfl
theorem laidOut : laidOutB Tryd.prog = true := by kernel_rfl
/-- The heap that the door's own run leaves bears what is listed. -/
theorem door_met (os : Os) (args : Array Value) : laidMetH Tryd.prog Rows.fnExactDateTextRow.laid ((World.doorLaid Tryd.prog 400 os).forCall (fun _ _ => 0) ⟨#[], args, []⟩).memory :=
  laidMetH_of_parts3 (fuel := 8) (laidMet_of_run' 8 (by kernel_rfl) (by kernel_rfl)) (by kernel_rfl) (by kernel_rfl)
set_option maxRecDepth 100000 in
theorem lifted (os : Os) (started : os.Started) (H : Type) (enc : TypeId × Value → H) :
    ReturnsInHanded {} Tryd.checked os 9 .any (fun w args => (Rows.fnExactDateTextSpec.pre enc Tryd.prog Tryd.f9 Rows.fnExactDateTextRow.domain false w args ∧ laidMetH Tryd.prog Rows.fnExactDateTextRow.laid w) ∧ sizedMet enc Tryd.prog Tryd.f9 (OpenSpec.ofChange Rows.fnExactDateTextSpec) false w args) (Rows.fnExactDateTextSpec.post enc Tryd.prog Tryd.f9 false true false false) := by
  refine Go.Proofs.YtehflacblgliiaaDoorRd.laid_shaped (C := Tryd.checked) own started (by kernel_rfl) Tryd.func9
    (ChangeSpec.witness_shaped (enc := enc) (C := Tryd.checked) (os := os) (X := fun w _ => laidMetH Tryd.prog Rows.fnExactDateTextRow.laid w) false (World.doorLaid Tryd.prog 400 os) #[.agg #[.int .i64 0, .int .i64 0, .int .i64 0, .int .i64 0, .int .i64 0, .int .i64 0]] 8 rfl (World.shaped_of_RefB (by kernel_rfl) (by kernel_rfl)) (by kernel_rfl) (by kernel_rfl) (by kernel_rfl) (door_met os _)) ?_
  intro W base args ds gs before hval0 hW hcnd hsz0 hL hsh _
  obtain ⟨psL, hLV, _⟩ : laidMet Tryd.prog Rows.fnExactDateTextRow.laid W := by have h_ := hL; rw [MakeChecks.laidMetH_plain _ _ _ (by kernel_rfl)] at h_; exact h_
  have hsz : (DataW.weightsEach Tryd.prog (Tryd.f9.params.toList ++ Rows.fnExactDateTextSpec.plain.varTypes Tryd.prog) (ds ++ gs)).all (· ≤ reachBytes) = true := hsz0
  have hval : ∀ (j : Nat) t v, Tryd.f9.params[j]? = some t → args[j]? = some v → Value.okWide Tryd.prog W .any base t v := hval0
  have hW' := hW
  obtain ⟨p, q, hA0, hV, rfl, hfz, hnd⟩ := hW
  have hA : DataW.TrodAll enc Tryd.prog W 0 (fun _ => true) true Tryd.f9.params.toList args.toList ds p := hA0
  rw [Tryd.params9] at hA hval hsz
  obtain ⟨v0, vs0, d0, ds0, p0, q0, hargs, rfl, rfl, h0, r0⟩ := trodAll_cons hA
  obtain ⟨rfl, rfl, rfl⟩ := trodAll_nil r0
  obtain rfl : args = #[v0] := by cases args; simp_all
  obtain ⟨rfl, rfl⟩ := trodVars_none hV
  have k0 := h0
  have lt0 := trod_blocks h0
  obtain ⟨cs0, n0, rfl, hl0, hf0⟩ := open_struct Tryd.underlying41 (by kernel_rfl) (by kernel_rfl) (hval 0 41 v0 rfl rfl) h0
  obtain ⟨c0_0, y0_0, e0_0, t0_0⟩ := hf0 0 _ rfl
  obtain ⟨a0_0, z0_0, _, w0_0⟩ := DataW.trod_int Tryd.underlying3 t0_0
  obtain rfl := one_of z0_0
  obtain ⟨c0_1, y0_1, e0_1, t0_1⟩ := hf0 1 _ rfl
  obtain ⟨a0_1, z0_1, _, w0_1⟩ := DataW.trod_int Tryd.underlying3 t0_1
  obtain rfl := one_of z0_1
  obtain ⟨c0_2, y0_2, e0_2, t0_2⟩ := hf0 2 _ rfl
  obtain ⟨a0_2, z0_2, _, w0_2⟩ := DataW.trod_int Tryd.underlying3 t0_2
  obtain rfl := one_of z0_2
  obtain ⟨c0_3, y0_3, e0_3, t0_3⟩ := hf0 3 _ rfl
  obtain ⟨a0_3, z0_3, _, w0_3⟩ := DataW.trod_int Tryd.underlying3 t0_3
  obtain rfl := one_of z0_3
  obtain ⟨c0_4, y0_4, e0_4, t0_4⟩ := hf0 4 _ rfl
  obtain ⟨a0_4, z0_4, _, w0_4⟩ := DataW.trod_int Tryd.underlying3 t0_4
  obtain rfl := one_of z0_4
  obtain ⟨c0_5, y0_5, e0_5, t0_5⟩ := hf0 5 _ rfl
  obtain ⟨a0_5, z0_5, _, w0_5⟩ := DataW.trod_int Tryd.underlying3 t0_5
  obtain rfl := one_of z0_5
  obtain rfl := list6 hl0 e0_0 e0_1 e0_2 e0_3 e0_4 e0_5
  clear hA0 hval0 hsz0 hsz
  obtain ⟨k, h⟩ := Pure.FnExactDateText a0_0 a0_1 a0_2 a0_3 a0_4 a0_5 w0_0 w0_1 w0_2 w0_3 w0_4 w0_5
  refine (F.laws_FnExactDateText.calls k a0_0 a0_1 a0_2 a0_3 a0_4 a0_5 true W (Go.Proofs.YtehflacblgliiaaDoorRd.laidP hLV (List.mem_of_getElem? (i := 2) (by kernel_rfl))) (Go.Proofs.YtehflacblgliiaaDoorRd.laidS hLV (List.mem_of_getElem? (i := 4) (by kernel_rfl))) h).mono fun e W' ⟨he, bel0⟩ => ?_
  subst he
  have bel : Below W.heap.size W W' := bel0
  exact ⟨_, rfl, _, _, _, [], _, [], hW', trodAll_mk1 (shut_bool Tryd.underlying4 _), (trodAll_cons_mk (Below.trod laidOut (by kernel_rfl) (of_decide_eq_true (by kernel_rfl)) k0 bel lt0) trodAll_mk0), rfl, bel.frame _, fun h => by cases h⟩
theorem over : Rows.fnExactDateTextRow.holds Tryd.pinned (OpenSpec.ofChange Rows.fnExactDateTextSpec) :=
  OpenClaim.holds_of_wide 9 Tryd.f9 rfl rfl rfl rfl rfl rfl rfl ⟨rfl, rfl, rfl, rfl, rfl⟩ rfl rfl rfl rfl rfl (by kernel_rfl) Tryd.func9 (by kernel_rfl)
    (of_decide_eq_true (by kernel_rfl)) (by unfold Func.isWrapper; first | (rw [if_pos (by decide +kernel)]; kernel_rfl) | (rw [if_neg (by decide +kernel)]; exact ⟨rfl, rfl⟩))
    (fun os started H enc _ => lifted os started H enc)
theorem proved : Rows.FnExactDateTextSaid := over
#print axioms proved
end Go.Proofs.YtehflacblgliiaaDoor.fnExactDateText
namespace Go.Proofs.YtehflacblgliiaaDoor
/-- The statement, under a short name, for the claim. -/
theorem fnExactDateText_holds : Rows.FnExactDateTextCardSaid :=
  Claim7.holds_tied_plain_at .later [] [.data, .data, .data, .listed, .data] true (true, "40a7b3333db9eca5a9993be0024909d88a9340776b34de859c0d799b7bb46bab") true
    fnExactDateText.proved (fun _ h => by cases h) (by kernel_rfl) (fun _ h => by cases h) fnExactDateText_row_tie rfl ⟨rfl, rfl⟩ (by kernel_rfl) rfl
    (fun f fn hf hfn => by
      obtain rfl : f = 9 := Option.some.inj ((show Tryd.prog.funcNamed "loop.example/g00256/laws.FnExactDateText" = some 9 by kernel_rfl).symm.trans hf) |>.symm
      obtain rfl : fn = Tryd.f9 := (Option.some.inj (Tryd.func9.symm.trans hfn)).symm
      exact ⟨by kernel_rfl, fun j t ht => by
        rw [Tryd.params9] at ht
        have hm : t ∈ [41] := by simpa using Array.mem_of_getElem? ht
        have hall : ([41].all fun u => !Tryd.prog.wantsStandIn u) = true := by kernel_rfl
        exact (show Tryd.prog.wantsStandIn t = false by simpa using List.all_eq_true.1 hall t hm)⟩)
    (by kernel_rfl)
end Go.Proofs.YtehflacblgliiaaDoor

/- The statement of FnExactNormalUrl, out of its pure statement and the walk of the code. No condition of its own. -/
import Derived.Test.YtehflacblgliiaaDoorRows
import Derived.Test.YtehflacblgliiaaDoorF4
import Derived.Test.YtehflacblgliiaaDoorPureFnExactNormalUrl
import Derived.Test.YtehflacblgliiaaDoorRk
import Derived.WalkKit
import Derived.ProofKit
import Derived.OpenShut
import Derived.ShutString
import Derived.ChangeOld
import Derived.Below
import Derived.SizedLaws
import Derived.Carry
import Derived.Test.YtehflacblgliiaaDoorRd
import Derived.Test.YtehflacblgliiaaDoorCards
import Derived.Test.YtehflacblgliiaaDoorTie
import Derived.SevenTiedAt
import Derived.Lay
namespace Go.Proofs.YtehflacblgliiaaDoor.fnExactNormalUrl
open Go.ChangeShapes Go.WideShapes Go.ChangeAt Go.RowKit Go.Proofs.YtehflacblgliiaaDoorRk
open Go.ChangeMaps (open_string shut_string)
set_option linter.unusedVariables false
theorem own : ownKnob Tryd.prog.godebug = none := by kernel_rfl
theorem laidOut : laidOutB Tryd.prog = true := by kernel_rfl
/-- The listed variables laid as they are listed. -/
theorem door_met (os : Os) (args : Array Value) : laidMetH Tryd.prog Rows.fnExactNormalUrlRow.laid ((World.laidAll Tryd.prog os Rows.fnExactNormalUrlRow.laid).forCall (fun _ _ => 0) ⟨#[], args, []⟩).memory := by
  rw [MakeChecks.laidMetH_plain _ _ _ (by kernel_rfl)]; exact laidMet_laidAll _ (by kernel_rfl) (by kernel_rfl)
set_option maxRecDepth 100000 in
theorem lifted (os : Os) (started : os.Started) (H : Type) (enc : TypeId × Value → H) :
    ReturnsInHanded {} Tryd.checked os 7 .any (fun w args => (Rows.fnExactNormalUrlSpec.pre enc Tryd.prog Tryd.f7 Rows.fnExactNormalUrlRow.domain false w args ∧ laidMetH Tryd.prog Rows.fnExactNormalUrlRow.laid w) ∧ sizedMet enc Tryd.prog Tryd.f7 (OpenSpec.ofChange Rows.fnExactNormalUrlSpec) false w args) (Rows.fnExactNormalUrlSpec.post enc Tryd.prog Tryd.f7 false true false false) := by
  refine Go.Proofs.YtehflacblgliiaaDoorRd.laid_shaped (C := Tryd.checked) own started (by kernel_rfl) Tryd.func7
    (ChangeSpec.witness_shaped (enc := enc) (C := Tryd.checked) (os := os) (X := fun w _ => laidMetH Tryd.prog Rows.fnExactNormalUrlRow.laid w) false (World.laidAll Tryd.prog os Rows.fnExactNormalUrlRow.laid) #[.agg #[.string ByteArray.empty, .string ByteArray.empty, .int .i64 0, .string ByteArray.empty, .string ByteArray.empty, .bool false]] 8 (World.laidAll_os _ _ _) (World.shaped_of_ZipB (by kernel_rfl) (by kernel_rfl)) (by kernel_rfl) (by kernel_rfl) (by kernel_rfl) (door_met os _)) ?_
  intro W base args ds gs before hval0 hW hcnd hsz0 hL hsh _
  obtain ⟨psL, hLV, _⟩ : laidMet Tryd.prog Rows.fnExactNormalUrlRow.laid W := by have h_ := hL; rw [MakeChecks.laidMetH_plain _ _ _ (by kernel_rfl)] at h_; exact h_
  have hsz : (DataW.weightsEach Tryd.prog (Tryd.f7.params.toList ++ Rows.fnExactNormalUrlSpec.plain.varTypes Tryd.prog) (ds ++ gs)).all (· ≤ reachBytes) = true := hsz0
  have hval : ∀ (j : Nat) t v, Tryd.f7.params[j]? = some t → args[j]? = some v → Value.okWide Tryd.prog W .any base t v := hval0
  have hW' := hW
  obtain ⟨p, q, hA0, hV, rfl, hfz, hnd⟩ := hW
  have hA : DataW.TrodAll enc Tryd.prog W 0 (fun _ => true) true Tryd.f7.params.toList args.toList ds p := hA0
  rw [Tryd.params7] at hA hval hsz
  obtain ⟨v0, vs0, d0, ds0, p0, q0, hargs, rfl, rfl, h0, r0⟩ := trodAll_cons hA
  obtain ⟨rfl, rfl, rfl⟩ := trodAll_nil r0
  obtain rfl : args = #[v0] := by cases args; simp_all
  obtain ⟨rfl, rfl⟩ := trodVars_none hV
  have k0 := h0
  have lt0 := trod_blocks h0
  obtain ⟨cs0, n0, rfl, hl0, hf0⟩ := open_struct Tryd.underlying26 (by kernel_rfl) (by kernel_rfl) (hval 0 26 v0 rfl rfl) h0
  obtain ⟨c0_0, y0_0, e0_0, t0_0⟩ := hf0 0 _ rfl
  obtain ⟨a0_0, z0_0, _, w0_0⟩ := DataW.trod_string Tryd.underlying9 t0_0
  obtain rfl := one_of z0_0
  obtain ⟨c0_1, y0_1, e0_1, t0_1⟩ := hf0 1 _ rfl
  obtain ⟨a0_1, z0_1, _, w0_1⟩ := DataW.trod_string Tryd.underlying9 t0_1
  obtain rfl := one_of z0_1
  obtain ⟨c0_2, y0_2, e0_2, t0_2⟩ := hf0 2 _ rfl
  obtain ⟨a0_2, z0_2, _, w0_2⟩ := DataW.trod_int Tryd.underlying3 t0_2
  obtain rfl := one_of z0_2
  obtain ⟨c0_3, y0_3, e0_3, t0_3⟩ := hf0 3 _ rfl
  obtain ⟨a0_3, z0_3, _, w0_3⟩ := DataW.trod_string Tryd.underlying9 t0_3
  obtain rfl := one_of z0_3
  obtain ⟨c0_4, y0_4, e0_4, t0_4⟩ := hf0 4 _ rfl
  obtain ⟨a0_4, z0_4, _, w0_4⟩ := DataW.trod_string Tryd.underlying9 t0_4
  obtain rfl := one_of z0_4
  obtain ⟨c0_5, y0_5, e0_5, t0_5⟩ := hf0 5 _ rfl
  obtain ⟨a0_5, z0_5, _⟩ := DataW.trod_bool Tryd.underlying4 t0_5
  obtain rfl := one_of z0_5
  obtain rfl := list6 hl0 e0_0 e0_1 e0_2 e0_3 e0_4 e0_5
  clear hA0 hval0 hsz0 hsz
  obtain ⟨k, h⟩ := Pure.FnExactNormalUrl a0_0 a0_1 a0_2 a0_3 a0_4 a0_5 w0_0 w0_1 w0_2 w0_3 w0_4
  refine (F.laws_FnExactNormalUrl.calls k a0_0 a0_1 a0_2 a0_3 a0_4 a0_5 true W (Go.Proofs.YtehflacblgliiaaDoorRd.laidM hsh) (Go.Proofs.YtehflacblgliiaaDoorRd.laidP hLV (List.mem_of_getElem? (i := 2) (by kernel_rfl))) h).mono fun e W' ⟨he, bel0⟩ => ?_
  subst he
  have bel : Below W.heap.size W W' := bel0
  exact ⟨_, rfl, _, _, _, [], _, [], hW', trodAll_mk1 (shut_bool Tryd.underlying4 _), (trodAll_cons_mk (Below.trod laidOut (by kernel_rfl) (of_decide_eq_true (by kernel_rfl)) k0 bel lt0) trodAll_mk0), rfl, bel.frame _, fun h => by cases h⟩
theorem over : Rows.fnExactNormalUrlRow.holds Tryd.pinned (OpenSpec.ofChange Rows.fnExactNormalUrlSpec) :=
  OpenClaim.holds_of_wide 7 Tryd.f7 rfl rfl rfl rfl rfl rfl rfl ⟨rfl, rfl, rfl, rfl, rfl⟩ rfl rfl rfl rfl rfl (by kernel_rfl) Tryd.func7 (by kernel_rfl)
    (of_decide_eq_true (by kernel_rfl)) (by unfold Func.isWrapper; first | (rw [if_pos (by decide +kernel)]; kernel_rfl) | (rw [if_neg (by decide +kernel)]; exact ⟨rfl, rfl⟩))
    (fun os started H enc _ => lifted os started H enc)
theorem proved : Rows.FnExactNormalUrlSaid := over
#print axioms proved
end Go.Proofs.YtehflacblgliiaaDoor.fnExactNormalUrl
namespace Go.Proofs.YtehflacblgliiaaDoor
/-- The statement, under a short name, for the claim. -/
theorem fnExactNormalUrl_holds : Rows.FnExactNormalUrlCardSaid :=
  Claim7.holds_tied_plain_at .later [] [.data, .data, .data, .data, .pinned] true (true, "40a7b3333db9eca5a9993be0024909d88a9340776b34de859c0d799b7bb46bab") true
    fnExactNormalUrl.proved (fun _ h => by cases h) (by kernel_rfl) (fun _ h => by cases h) fnExactNormalUrl_row_tie rfl ⟨rfl, rfl⟩ (by kernel_rfl) rfl
    (fun f fn hf hfn => by
      obtain rfl : f = 7 := Option.some.inj ((show Tryd.prog.funcNamed "loop.example/g00256/laws.FnExactNormalUrl" = some 7 by kernel_rfl).symm.trans hf) |>.symm
      obtain rfl : fn = Tryd.f7 := (Option.some.inj (Tryd.func7.symm.trans hfn)).symm
      exact ⟨by kernel_rfl, fun j t ht => by
        rw [Tryd.params7] at ht
        have hm : t ∈ [26] := by simpa using Array.mem_of_getElem? ht
        have hall : ([26].all fun u => !Tryd.prog.wantsStandIn u) = true := by kernel_rfl
        exact (show Tryd.prog.wantsStandIn t = false by simpa using List.all_eq_true.1 hall t hm)⟩)
    (by kernel_rfl)
end Go.Proofs.YtehflacblgliiaaDoor

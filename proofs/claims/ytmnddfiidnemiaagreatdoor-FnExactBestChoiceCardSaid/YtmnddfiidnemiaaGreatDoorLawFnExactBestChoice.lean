/- The statement of FnExactBestChoice, out of its pure statement and the walk of the code. No condition of its own. -/
import Derived.Test.YtmnddfiidnemiaaGreatDoorRows
import Derived.Test.YtmnddfiidnemiaaGreatDoorF3
import Derived.Test.YtmnddfiidnemiaaGreatDoorPureFnExactBestChoice
import Derived.Test.YtmnddfiidnemiaaGreatDoorRk
import Derived.WalkKit
import Derived.ProofKit
import Derived.OpenShut
import Derived.ShutString
import Derived.ChangeOld
import Derived.Below
import Derived.SizedLaws
import Derived.Carry
import Derived.Test.YtmnddfiidnemiaaGreatDoorRd
import Derived.Test.YtmnddfiidnemiaaGreatDoorCards
import Derived.Test.YtmnddfiidnemiaaGreatDoorTie
import Derived.SevenTiedAt
import Derived.Test.YtmnddfiidnemiaaGreatDoorRs
import Derived.Lay
namespace Go.Proofs.YtmnddfiidnemiaaGreatDoor.fnExactBestChoice
open Go.ChangeShapes Go.WideShapes Go.ChangeAt Go.RowKit Go.Proofs.YtmnddfiidnemiaaGreatDoorRk Go.Proofs.YtmnddfiidnemiaaGreatDoorW.PrintWords
open Go.ChangeMaps (open_string shut_string)
set_option linter.unusedVariables false
theorem own : ownKnob Tryz.prog.godebug = none := by kernel_rfl
theorem laidOut : laidOutB Tryz.prog = true := by kernel_rfl
theorem el9 {H : Type} {enc : TypeId × Value → H} {w : World} {base : Nat} {spare : Nat → Bool} {held : Bool} {n : Nat} {cs : List Value} {y : DataW H × List MemPlace} (h : DataW.trod enc Tryz.prog w base spare held n 9 cs = some y) : ∃ x : ByteArray, cs = [.string x] ∧ x.size ≤ 9223372036854775807 := by
  obtain ⟨a, rfl, _, hw⟩ := DataW.trod_string Tryz.underlying9 h
  exact ⟨a, rfl, hw⟩
/-- The listed variables laid as they are listed. -/
theorem door_met (os : Os) (args : Array Value) : laidMetH Tryz.prog Rows.fnExactBestChoiceRow.laid ((World.laidAll Tryz.prog os Rows.fnExactBestChoiceRow.laid).forCall (fun _ _ => 0) ⟨#[], args, []⟩).memory := by
  rw [MakeChecks.laidMetH_plain _ _ _ (by kernel_rfl)]; exact laidMet_laidAll _ (by kernel_rfl) (by kernel_rfl)
set_option maxRecDepth 100000 in
theorem lifted (os : Os) (started : os.Started) (H : Type) (enc : TypeId × Value → H) :
    ReturnsInHanded {} Tryz.checked os 3 .any (fun w args => (Rows.fnExactBestChoiceSpec.pre enc Tryz.prog Tryz.f3 Rows.fnExactBestChoiceRow.domain false w args ∧ laidMetH Tryz.prog Rows.fnExactBestChoiceRow.laid w) ∧ sizedMet enc Tryz.prog Tryz.f3 (OpenSpec.ofChange Rows.fnExactBestChoiceSpec) false w args) (Rows.fnExactBestChoiceSpec.post enc Tryz.prog Tryz.f3 false true false false) := by
  refine Go.Proofs.YtmnddfiidnemiaaGreatDoorRd.laid_shaped (C := Tryz.checked) own started (by kernel_rfl) Tryz.func3
    (ChangeSpec.witness_shaped (enc := enc) (C := Tryz.checked) (os := os) (X := fun w _ => laidMetH Tryz.prog Rows.fnExactBestChoiceRow.laid w) false (World.laidAll Tryz.prog os Rows.fnExactBestChoiceRow.laid) #[.string ByteArray.empty, .slice none 0 0] 8 (World.laidAll_os _ _ _) (World.shaped_of_ZipB (by kernel_rfl) (by kernel_rfl)) (by kernel_rfl) (by kernel_rfl) (by kernel_rfl) (door_met os _)) ?_
  intro W base args ds gs before hval0 hW hcnd hsz0 hL hsh _
  obtain ⟨psL, hLV, _⟩ : laidMet Tryz.prog Rows.fnExactBestChoiceRow.laid W := by have h_ := hL; rw [MakeChecks.laidMetH_plain _ _ _ (by kernel_rfl)] at h_; exact h_
  have hsz : (DataW.weightsEach Tryz.prog (Tryz.f3.params.toList ++ Rows.fnExactBestChoiceSpec.plain.varTypes Tryz.prog) (ds ++ gs)).all (· ≤ reachBytes) = true := hsz0
  have hval : ∀ (j : Nat) t v, Tryz.f3.params[j]? = some t → args[j]? = some v → Value.okWide Tryz.prog W .any base t v := hval0
  have hW' := hW
  obtain ⟨p, q, hA0, hV, rfl, hfz, hnd⟩ := hW
  have hA : DataW.TrodAll enc Tryz.prog W 0 (fun _ => true) true Tryz.f3.params.toList args.toList ds p := hA0
  rw [Tryz.params3] at hA hval hsz
  obtain ⟨v0, vs0, d0, ds0, p0, q0, hargs, rfl, rfl, h0, r0⟩ := trodAll_cons hA
  obtain ⟨v1, vs1, d1, ds1, p1, q1, rfl, rfl, rfl, h1, r1⟩ := trodAll_cons r0
  obtain ⟨rfl, rfl, rfl⟩ := trodAll_nil r1
  obtain rfl : args = #[v0, v1] := by cases args; simp_all
  obtain ⟨rfl, rfl⟩ := trodVars_none hV
  obtain ⟨a0, rfl, rfl, rfl, w0⟩ := open_string Tryz.underlying9 (hval 0 9 v0 rfl rfl) h0
  have k1 := h1
  have lt1 := trod_blocks h1
  obtain ⟨a1, len1, cap1, rfl⟩ := okWide_slice Tryz.underlying22 (hval 1 22 v1 rfl rfl)
  obtain ⟨m1, hf1⟩ := h1
  obtain ⟨A1, l1, c1, hv1, hc1, hr1, hg1⟩ := Go.Proofs.YtmnddfiidnemiaaGreatDoorRs.open_row Kd.string (fun x : ByteArray => [.string x]) (fun x : ByteArray => x.size ≤ 9223372036854775807) Tryz.underlying22 (by kernel_rfl) (fun _ _ => rfl) (fun _ => rfl) (fun _ _ _ h_ => el9 h_) hf1
  simp [Value.cells] at hv1
  obtain ⟨rfl, rfl, rfl⟩ := hv1
  clear hA0 hval0 hsz0 hsz
  obtain ⟨k, h⟩ := Pure.FnExactBestChoice a0 l1 w0 hr1.2.1 hg1
  refine (F.laws_FnExactBestChoice.calls k a0 a1 cap1 l1 true W hr1 hc1 (Go.Proofs.YtmnddfiidnemiaaGreatDoorRd.laidE (n1 := "*errors.errorString") (d1 := (.ptr (.agg [.lit (.string [105, 110, 118, 97, 108, 105, 100, 32, 115, 121, 110, 116, 97, 120])]))) (n2 := "*errors.errorString") (d2 := (.ptr (.agg [.lit (.string [118, 97, 108, 117, 101, 32, 111, 117, 116, 32, 111, 102, 32, 114, 97, 110, 103, 101])]))) hLV (List.mem_of_getElem? (i := 5) (by kernel_rfl)) (List.mem_of_getElem? (i := 4) (by kernel_rfl))) (Go.Proofs.YtmnddfiidnemiaaGreatDoorRd.laidM hsh) h).mono fun e W' ⟨he, bel0⟩ => ?_
  subst he
  have bel : Below W.heap.size W W' := bel0
  exact ⟨_, rfl, _, _, _, [], _, [], hW', trodAll_mk1 (shut_bool Tryz.underlying4 _), (trodAll_cons_mk (shut_string Tryz.underlying9 w0) (trodAll_cons_mk (Below.trod laidOut (by kernel_rfl) (of_decide_eq_true (by kernel_rfl)) k1 bel lt1) trodAll_mk0)), rfl, bel.frame _, fun h => by cases h⟩
theorem over : Rows.fnExactBestChoiceRow.holds Tryz.pinned (OpenSpec.ofChange Rows.fnExactBestChoiceSpec) :=
  OpenClaim.holds_of_wide 3 Tryz.f3 rfl rfl rfl rfl rfl rfl rfl ⟨rfl, rfl, rfl, rfl, rfl⟩ rfl rfl rfl rfl rfl (by kernel_rfl) Tryz.func3 (by kernel_rfl)
    (of_decide_eq_true (by kernel_rfl)) (by unfold Func.isWrapper; first | (rw [if_pos (by decide +kernel)]; kernel_rfl) | (rw [if_neg (by decide +kernel)]; exact ⟨rfl, rfl⟩))
    (fun os started H enc _ => lifted os started H enc)
theorem proved : Rows.FnExactBestChoiceSaid := over
#print axioms proved
end Go.Proofs.YtmnddfiidnemiaaGreatDoor.fnExactBestChoice
namespace Go.Proofs.YtmnddfiidnemiaaGreatDoor
/-- The statement, under a short name, for the claim. -/
theorem fnExactBestChoice_holds : Rows.FnExactBestChoiceCardSaid :=
  Claim7.holds_tied_plain_at .later [] [.data, .data, .data, .data, .sentinel, .sentinel, .pinned] true (true, "b3733fe554f296748992c5a9db95824a9dd4dbecf437a559fc53680fd51ea0e0") true
    fnExactBestChoice.proved (fun _ h => by cases h) (by kernel_rfl) (fun _ h => by cases h) fnExactBestChoice_row_tie rfl ⟨rfl, rfl⟩ (by kernel_rfl) rfl
    (fun f fn hf hfn => by
      obtain rfl : f = 3 := Option.some.inj ((show Tryz.prog.funcNamed "loop.example/g00256/laws.FnExactBestChoice" = some 3 by kernel_rfl).symm.trans hf) |>.symm
      obtain rfl : fn = Tryz.f3 := (Option.some.inj (Tryz.func3.symm.trans hfn)).symm
      exact ⟨by kernel_rfl, fun j t ht => by
        rw [Tryz.params3] at ht
        have hm : t ∈ [9, 22] := by simpa using Array.mem_of_getElem? ht
        have hall : ([9, 22].all fun u => !Tryz.prog.wantsStandIn u) = true := by kernel_rfl
        exact (show Tryz.prog.wantsStandIn t = false by simpa using List.all_eq_true.1 hall t hm)⟩)
    (by kernel_rfl)
end Go.Proofs.YtmnddfiidnemiaaGreatDoor

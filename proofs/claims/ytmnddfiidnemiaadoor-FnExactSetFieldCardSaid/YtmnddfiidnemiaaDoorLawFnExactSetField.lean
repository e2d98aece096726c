/- The statement of FnExactSetField, out of its pure statement and the walk of the code. No condition of its own. -/
import Derived.Test.YtmnddfiidnemiaaDoorRows
import Derived.Test.YtmnddfiidnemiaaDoorF3
import Derived.Test.YtmnddfiidnemiaaDoorPureFnExactSetField
import Derived.Test.YtmnddfiidnemiaaDoorRk
import Derived.WalkKit
import Derived.ProofKit
import Derived.OpenShut
import Derived.ShutString
import Derived.ChangeOld
import Derived.Below
import Derived.SizedLaws
import Derived.Carry
import Derived.Test.YtmnddfiidnemiaaDoorRd
import Derived.Test.YtmnddfiidnemiaaDoorCards
import Derived.Test.YtmnddfiidnemiaaDoorTie
import Derived.SevenTiedAt
import Derived.Test.YtmnddfiidnemiaaDoorRs
import Derived.Lay
namespace Go.Proofs.YtmnddfiidnemiaaDoor.fnExactSetField
open Go.ChangeShapes Go.WideShapes Go.ChangeAt Go.RowKit Go.Proofs.YtmnddfiidnemiaaDoorRk Go.Proofs.YtmnddfiidnemiaaDoorW.PrintWords
open Go.ChangeMaps (open_string shut_string)
set_option linter.unusedVariables false
theorem own : ownKnob Tryd.prog.godebug = none := by kernel_rfl
theorem laidOut : laidOutB Tryd.prog = true := by kernel_rfl
theorem el23 {H : Type} {enc : TypeId × Value → H} {w : World} {base : Nat} {spare : Nat → Bool} {held : Bool} {n : Nat} {cs : List Value} {y : DataW H × List MemPlace} (h : DataW.trod enc Tryd.prog w base spare held n 23 cs = some y) : ∃ x : F.S23, cs = [.string x.f0, .string x.f1] ∧ (x.f0.size ≤ 9223372036854775807 ∧ x.f1.size ≤ 9223372036854775807) := by
  obtain ⟨hl, m, hf⟩ := Go.Proofs.YtmnddfiidnemiaaDoorRs.elem_struct Tryd.underlying23 (by kernel_rfl) (by kernel_rfl) h
  obtain ⟨c0, y0, e0, t0⟩ := hf 0 _ rfl
  obtain ⟨a0, z0, _, w0⟩ := DataW.trod_string Tryd.underlying9 t0
  obtain rfl := one_of z0
  obtain ⟨c1, y1, e1, t1⟩ := hf 1 _ rfl
  obtain ⟨a1, z1, _, w1⟩ := DataW.trod_string Tryd.underlying9 t1
  obtain rfl := one_of z1
  obtain rfl := list2 hl e0 e1
  exact ⟨⟨a0, a1⟩, rfl, ⟨w0, w1⟩⟩
/-- The listed variables laid as they are listed. -/
theorem door_met (os : Os) (args : Array Value) : laidMetH Tryd.prog Rows.fnExactSetFieldRow.laid ((World.laidAll Tryd.prog os Rows.fnExactSetFieldRow.laid).forCall (fun _ _ => 0) ⟨#[], args, []⟩).memory := by
  rw [MakeChecks.laidMetH_plain _ _ _ (by kernel_rfl)]; exact laidMet_laidAll _ (by kernel_rfl) (by kernel_rfl)
set_option maxRecDepth 100000 in
theorem lifted (os : Os) (started : os.Started) (H : Type) (enc : TypeId × Value → H) :
    ReturnsInHanded {} Tryd.checked os 7 .any (fun w args => (Rows.fnExactSetFieldSpec.pre enc Tryd.prog Tryd.f7 Rows.fnExactSetFieldRow.domain false w args ∧ laidMetH Tryd.prog Rows.fnExactSetFieldRow.laid w) ∧ sizedMet enc Tryd.prog Tryd.f7 (OpenSpec.ofChange Rows.fnExactSetFieldSpec) false w args) (Rows.fnExactSetFieldSpec.post enc Tryd.prog Tryd.f7 false true false false) := by
  refine Go.Proofs.YtmnddfiidnemiaaDoorRd.laid_shaped (C := Tryd.checked) own started (by kernel_rfl) Tryd.func7
    (ChangeSpec.witness_shaped (enc := enc) (C := Tryd.checked) (os := os) (X := fun w _ => laidMetH Tryd.prog Rows.fnExactSetFieldRow.laid w) false (World.laidAll Tryd.prog os Rows.fnExactSetFieldRow.laid) #[.slice none 0 0, .agg #[.string ByteArray.empty, .string ByteArray.empty]] 8 (World.laidAll_os _ _ _) (World.shaped_of_ZipB (by kernel_rfl) (by kernel_rfl)) (by kernel_rfl) (by kernel_rfl) (by kernel_rfl) (door_met os _)) ?_
  intro W base args ds gs before hval0 hW hcnd hsz0 hL hsh _
  obtain ⟨psL, hLV, _⟩ : laidMet Tryd.prog Rows.fnExactSetFieldRow.laid W := by have h_ := hL; rw [MakeChecks.laidMetH_plain _ _ _ (by kernel_rfl)] at h_; exact h_
  have hsz : (DataW.weightsEach Tryd.prog (Tryd.f7.params.toList ++ Rows.fnExactSetFieldSpec.plain.varTypes Tryd.prog) (ds ++ gs)).all (· ≤ reachBytes) = true := hsz0
  have hval : ∀ (j : Nat) t v, Tryd.f7.params[j]? = some t → args[j]? = some v → Value.okWide Tryd.prog W .any base t v := hval0
  have hW' := hW
  obtain ⟨p, q, hA0, hV, rfl, hfz, hnd⟩ := hW
  have hA : DataW.TrodAll enc Tryd.prog W 0 (fun _ => true) true Tryd.f7.params.toList args.toList ds p := hA0
  rw [Tryd.params7] at hA hval hsz
  obtain ⟨v0, vs0, d0, ds0, p0, q0, hargs, rfl, rfl, h0, r0⟩ := trodAll_cons hA
  obtain ⟨v1, vs1, d1, ds1, p1, q1, rfl, rfl, rfl, h1, r1⟩ := trodAll_cons r0
  obtain ⟨rfl, rfl, rfl⟩ := trodAll_nil r1
  obtain rfl : args = #[v0, v1] := by cases args; simp_all
  obtain ⟨rfl, rfl⟩ := trodVars_none hV
  have k0 := h0
  have lt0 := trod_blocks h0
  obtain ⟨a0, len0, cap0, rfl⟩ := okWide_slice Tryd.underlying35 (hval 0 35 v0 rfl rfl)
  obtain ⟨m0, hf0⟩ := h0
  obtain ⟨A0, l0, c0, hv0, hc0, hr0, hg0⟩ := Go.Proofs.YtmnddfiidnemiaaDoorRs.open_row F.k23 (fun x : F.S23 => [.string x.f0, .string x.f1]) (fun x : F.S23 => x.f0.size ≤ 9223372036854775807 ∧ x.f1.size ≤ 9223372036854775807) Tryd.underlying35 (by kernel_rfl) (fun w x => F.k23_mk w x) (fun _ => rfl) (fun _ _ _ h_ => el23 h_) hf0
  simp [Value.cells] at hv0
  obtain ⟨rfl, rfl, rfl⟩ := hv0
  have k1 := h1
  have lt1 := trod_blocks h1
  obtain ⟨cs1, n1, rfl, hl1, hf1⟩ := open_struct Tryd.underlying23 (by kernel_rfl) (by kernel_rfl) (hval 1 23 v1 rfl rfl) h1
  obtain ⟨c1_0, y1_0, e1_0, t1_0⟩ := hf1 0 _ rfl
  obtain ⟨a1_0, z1_0, _, w1_0⟩ := DataW.trod_string Tryd.underlying9 t1_0
  obtain rfl := one_of z1_0
  obtain ⟨c1_1, y1_1, e1_1, t1_1⟩ := hf1 1 _ rfl
  obtain ⟨a1_1, z1_1, _, w1_1⟩ := DataW.trod_string Tryd.underlying9 t1_1
  obtain rfl := one_of z1_1
  obtain rfl := list2 hl1 e1_0 e1_1
  clear hA0 hval0 hsz0 hsz
  obtain ⟨k, h⟩ := Pure.FnExactSetField l0 a1_0 a1_1 hr0.2.1 hg0 w1_0 w1_1
  refine (F.laws_FnExactSetField.calls k a0 cap0 l0 a1_0 a1_1 true W hr0 hc0 h).mono fun e W' ⟨he, bel0⟩ => ?_
  subst he
  have bel : Below W.heap.size W W' := bel0
  exact ⟨_, rfl, _, _, _, [], _, [], hW', trodAll_mk1 (shut_bool Tryd.underlying4 _), (trodAll_cons_mk (Below.trod laidOut (by kernel_rfl) (of_decide_eq_true (by kernel_rfl)) k0 bel lt0) (trodAll_cons_mk (Below.trod laidOut (by kernel_rfl) (of_decide_eq_true (by kernel_rfl)) k1 bel lt1) trodAll_mk0)), rfl, bel.frame _, fun h => by cases h⟩
theorem over : Rows.fnExactSetFieldRow.holds Tryd.pinned (OpenSpec.ofChange Rows.fnExactSetFieldSpec) :=
  OpenClaim.holds_of_wide 7 Tryd.f7 rfl rfl rfl rfl rfl rfl rfl ⟨rfl, rfl, rfl, rfl, rfl⟩ rfl rfl rfl rfl rfl (by kernel_rfl) Tryd.func7 (by kernel_rfl)
    (of_decide_eq_true (by kernel_rfl)) (by unfold Func.isWrapper; first | (rw [if_pos (by decide +kernel)]; kernel_rfl) | (rw [if_neg (by decide +kernel)]; exact ⟨rfl, rfl⟩))
    (fun os started H enc _ => lifted os started H enc)
theorem proved : Rows.FnExactSetFieldSaid := over
#print axioms proved
end Go.Proofs.YtmnddfiidnemiaaDoor.fnExactSetField
namespace Go.Proofs.YtmnddfiidnemiaaDoor
/-- The statement, under a short name, for the claim. -/
theorem fnExactSetField_holds : Rows.FnExactSetFieldCardSaid :=
  Claim7.holds_tied_plain_at .later [] [.data, .pinned] true (true, "5e3f61c4121d7cc40240a7f03c95bf5c966b8add01d3407ba599f56f3700502e") true
    fnExactSetField.proved (fun _ h => by cases h) (by kernel_rfl) (fun _ h => by cases h) fnExactSetField_row_tie rfl ⟨rfl, rfl⟩ (by kernel_rfl) rfl
    (fun f fn hf hfn => by
      obtain rfl : f = 7 := Option.some.inj ((show Tryd.prog.funcNamed "loop.example/g00256/laws.FnExactSetField" = some 7 by kernel_rfl).symm.trans hf) |>.symm
      obtain rfl : fn = Tryd.f7 := (Option.some.inj (Tryd.func7.symm.trans hfn)).symm
      exact ⟨by kernel_rfl, fun j t ht => by
        rw [Tryd.params7] at ht
        have hm : t ∈ [35, 23] := by simpa using Array.mem_of_getElem? ht
        have hall : ([35, 23].all fun u => !Tryd.prog.wantsStandIn u) = true := by kernel_rfl
        exact (show Tryd.prog.wantsStandIn t = false by simpa using List.all_eq_true.1 hall t hm)⟩)
    (by kernel_rfl)
end Go.Proofs.YtmnddfiidnemiaaDoor

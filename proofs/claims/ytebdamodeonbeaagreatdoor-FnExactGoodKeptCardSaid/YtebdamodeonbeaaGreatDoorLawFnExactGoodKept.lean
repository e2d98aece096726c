/- The statement of FnExactGoodKept, out of its pure statement and the walk of the code. No condition of its own. -/
import Derived.Test.YtebdamodeonbeaaGreatDoorRows
import Derived.Test.YtebdamodeonbeaaGreatDoorF5
import Derived.Test.YtebdamodeonbeaaGreatDoorPureFnExactGoodKept
import Derived.Test.YtebdamodeonbeaaGreatDoorRk
import Derived.Test.YtebdamodeonbeaaGreatDoorRn
import Derived.WalkKit
import Derived.ProofKit
import Derived.OpenShut
import Derived.ShutString
import Derived.ChangeOld
import Derived.Below
import Derived.SizedLaws
import Derived.Carry
import Derived.Test.YtebdamodeonbeaaGreatDoorRd
import Derived.Test.YtebdamodeonbeaaGreatDoorCards
import Derived.Test.YtebdamodeonbeaaGreatDoorTie
import Derived.SevenTiedAt
import Derived.Test.YtebdamodeonbeaaGreatDoorRs
import Derived.Lay
namespace Go.Proofs.YtebdamodeonbeaaGreatDoor.fnExactGoodKept
open Go.ChangeShapes Go.WideShapes Go.ChangeAt Go.RowKit Go.Proofs.YtebdamodeonbeaaGreatDoorRk Go.Proofs.YtebdamodeonbeaaGreatDoorW.PrintWords
open Go.ChangeMaps (open_string shut_string)
set_option linter.unusedVariables false
theorem own : ownKnob Tryz.prog.godebug = none := by kernel_rfl
theorem laidOut : laidOutB Tryz.prog = true := by kernel_rfl
theorem el69 {H : Type} {enc : TypeId × Value → H} {w : World} {base : Nat} {spare : Nat → Bool} {held : Bool} {n : Nat} {cs : List Value} {y : DataW H × List MemPlace} (h : DataW.trod enc Tryz.prog w base spare held n 69 cs = some y) : ∃ x : F.S69, cs = [.string x.f0, .string x.f1] ∧ (x.f0.size ≤ 9223372036854775807 ∧ x.f1.size ≤ 9223372036854775807) := by
  obtain ⟨hl, m, hf⟩ := Go.Proofs.YtebdamodeonbeaaGreatDoorRs.elem_struct Tryz.underlying69 (by kernel_rfl) (by kernel_rfl) h
  obtain ⟨c0, y0, e0, t0⟩ := hf 0 _ rfl
  obtain ⟨a0, z0, _, w0⟩ := DataW.trod_string Tryz.underlying9 t0
  obtain rfl := one_of z0
  obtain ⟨c1, y1, e1, t1⟩ := hf 1 _ rfl
  obtain ⟨a1, z1, _, w1⟩ := DataW.trod_string Tryz.underlying9 t1
  obtain rfl := one_of z1
  obtain rfl := list2 hl e0 e1
  exact ⟨⟨a0, a1⟩, rfl, ⟨w0, w1⟩⟩
/-- The listed variables laid as they are listed. -/
theorem door_met (os : Os) (args : Array Value) : laidMetH Tryz.prog Rows.fnExactGoodKeptRow.laid ((World.laidAll Tryz.prog os Rows.fnExactGoodKeptRow.laid).forCall (fun _ _ => 0) ⟨#[], args, []⟩).memory := by
  rw [MakeChecks.laidMetH_plain _ _ _ (by kernel_rfl)]; exact laidMet_laidAll _ (by kernel_rfl) (by kernel_rfl)
set_option maxRecDepth 100000 in
theorem lifted (os : Os) (started : os.Started) (H : Type) (enc : TypeId × Value → H) :
    ReturnsInHanded {} Tryz.checked os 8 .any (fun w args => (Rows.fnExactGoodKeptSpec.pre enc Tryz.prog Tryz.f8 Rows.fnExactGoodKeptRow.domain false w args ∧ laidMetH Tryz.prog Rows.fnExactGoodKeptRow.laid w) ∧ sizedMet enc Tryz.prog Tryz.f8 (OpenSpec.ofChange Rows.fnExactGoodKeptSpec) false w args) (Rows.fnExactGoodKeptSpec.post enc Tryz.prog Tryz.f8 false true false false) := by
  refine Go.Proofs.YtebdamodeonbeaaGreatDoorRd.laid_shaped (C := Tryz.checked) own started (by kernel_rfl) Tryz.func8
    (ChangeSpec.witness_shaped (enc := enc) (C := Tryz.checked) (os := os) (X := fun w _ => laidMetH Tryz.prog Rows.fnExactGoodKeptRow.laid w) false (World.laidAll Tryz.prog os Rows.fnExactGoodKeptRow.laid) #[.agg #[.int .i64 0, .string ByteArray.empty, .slice none 0 0, .string ByteArray.empty, .int .i64 0, .int .i64 0]] 8 (World.laidAll_os _ _ _) (World.shaped_of_ZipB (by kernel_rfl) (by kernel_rfl)) (by kernel_rfl) (by kernel_rfl) (by kernel_rfl) (door_met os _)) ?_
  intro W base args ds gs before hval0 hW hcnd hsz0 hL hsh _
  obtain ⟨psL, hLV, _⟩ : laidMet Tryz.prog Rows.fnExactGoodKeptRow.laid W := by have h_ := hL; rw [MakeChecks.laidMetH_plain _ _ _ (by kernel_rfl)] at h_; exact h_
  have hsz : (DataW.weightsEach Tryz.prog (Tryz.f8.params.toList ++ Rows.fnExactGoodKeptSpec.plain.varTypes Tryz.prog) (ds ++ gs)).all (· ≤ reachBytes) = true := hsz0
  have hval : ∀ (j : Nat) t v, Tryz.f8.params[j]? = some t → args[j]? = some v → Value.okWide Tryz.prog W .any base t v := hval0
  have hW' := hW
  obtain ⟨p, q, hA0, hV, rfl, hfz, hnd⟩ := hW
  have hA : DataW.TrodAll enc Tryz.prog W 0 (fun _ => true) true Tryz.f8.params.toList args.toList ds p := hA0
  rw [Tryz.params8] at hA hval hsz
  obtain ⟨v0, vs0, d0, ds0, p0, q0, hargs, rfl, rfl, h0, r0⟩ := trodAll_cons hA
  obtain ⟨rfl, rfl, rfl⟩ := trodAll_nil r0
  obtain rfl : args = #[v0] := by cases args; simp_all
  obtain ⟨rfl, rfl⟩ := trodVars_none hV
  have k0 := h0
  have lt0 := trod_blocks h0
  obtain ⟨cs0, n0, rfl, hl0, hf0⟩ := Go.Proofs.YtebdamodeonbeaaGreatDoorRn.open_wide Tryz.underlying46 (hval 0 46 v0 rfl rfl) h0
  obtain ⟨x0, x1, x2, x3, x4, x5, rfl⟩ := Go.Proofs.YtebdamodeonbeaaGreatDoorRn.six_of (hl0.trans (show Tryz.prog.cellsOf 46 = 6 by kernel_rfl))
  obtain ⟨y9, t9⟩ := hf0 0 _ rfl
  have t9' : DataW.trod enc Tryz.prog W 0 (fun _ => true) true n0 34 [x0, x1, x2, x3] = some y9 := t9
  obtain ⟨m0, _, hf1⟩ := Go.Proofs.YtebdamodeonbeaaGreatDoorRn.inner_struct Tryz.underlying34 (by kernel_rfl) (by kernel_rfl) t9'
  obtain ⟨c0_0, y0_0, e0_0, t0_0⟩ := hf1 0 _ rfl
  obtain ⟨a0_0, z0_0, _, w0_0⟩ := DataW.trod_int Tryz.underlying3 t0_0
  obtain rfl := one_of z0_0
  obtain ⟨c0_1, y0_1, e0_1, t0_1⟩ := hf1 1 _ rfl
  obtain ⟨a0_1, z0_1, _, w0_1⟩ := DataW.trod_string Tryz.underlying9 t0_1
  obtain rfl := one_of z0_1
  obtain ⟨c0_2, y0_2, e0_2, t0_2⟩ := hf1 2 _ rfl
  obtain ⟨A0_2, l0_2, c0_2, hv0_2, hc0_2, hr0_2, hg0_2⟩ := Go.Proofs.YtebdamodeonbeaaGreatDoorRs.open_row F.k69 (fun x : F.S69 => [.string x.f0, .string x.f1]) (fun x : F.S69 => x.f0.size ≤ 9223372036854775807 ∧ x.f1.size ≤ 9223372036854775807) Tryz.underlying22 (by kernel_rfl) (fun w x => F.k69_mk w x) (fun _ => rfl) (fun _ _ _ h_ => el69 h_) t0_2
  obtain rfl := one_of hv0_2
  obtain ⟨c0_3, y0_3, e0_3, t0_3⟩ := hf1 3 _ rfl
  obtain ⟨a0_3, z0_3, _, w0_3⟩ := DataW.trod_string Tryz.underlying9 t0_3
  obtain rfl := one_of z0_3
  obtain ⟨y0_4, t0_4⟩ := hf0 1 _ rfl
  have t0_4' : DataW.trod enc Tryz.prog W 0 (fun _ => true) true n0 3 [x4] = some y0_4 := t0_4
  obtain ⟨a0_4, z0_4, _, w0_4⟩ := DataW.trod_int Tryz.underlying3 t0_4'
  obtain rfl := one_of z0_4
  obtain ⟨y0_5, t0_5⟩ := hf0 2 _ rfl
  have t0_5' : DataW.trod enc Tryz.prog W 0 (fun _ => true) true n0 3 [x5] = some y0_5 := t0_5
  obtain ⟨a0_5, z0_5, _, w0_5⟩ := DataW.trod_int Tryz.underlying3 t0_5'
  obtain rfl := one_of z0_5
  obtain rfl := Option.some.inj e0_0
  obtain rfl := Option.some.inj e0_1
  obtain rfl := Option.some.inj e0_2
  obtain rfl := Option.some.inj e0_3
  clear hA0 hval0 hsz0 hsz
  obtain ⟨k, h⟩ := Pure.FnExactGoodKept a0_0 a0_1 l0_2 a0_3 a0_4 a0_5 w0_0 w0_1 hr0_2.2.1 hg0_2 w0_3 w0_4 w0_5
  refine (F.laws_FnExactGoodKept.calls k a0_0 a0_1 A0_2 c0_2 l0_2 a0_3 a0_4 a0_5 true W hr0_2 hc0_2 (Go.Proofs.YtebdamodeonbeaaGreatDoorRd.laidE (n1 := "*errors.errorString") (d1 := (.ptr (.agg [.lit (.string [105, 110, 118, 97, 108, 105, 100, 32, 115, 121, 110, 116, 97, 120])]))) (n2 := "*errors.errorString") (d2 := (.ptr (.agg [.lit (.string [118, 97, 108, 117, 101, 32, 111, 117, 116, 32, 111, 102, 32, 114, 97, 110, 103, 101])]))) hLV (List.mem_of_getElem? (i := 5) (by kernel_rfl)) (List.mem_of_getElem? (i := 4) (by kernel_rfl))) (Go.Proofs.YtebdamodeonbeaaGreatDoorRd.laidP hLV (List.mem_of_getElem? (i := 2) (by kernel_rfl))) h).mono fun e W' ⟨he, bel0⟩ => ?_
  subst he
  have bel : Below W.heap.size W W' := bel0
  exact ⟨_, rfl, _, _, _, [], _, [], hW', trodAll_mk1 (shut_bool Tryz.underlying4 _), (trodAll_cons_mk (Below.trod laidOut (by kernel_rfl) (of_decide_eq_true (by kernel_rfl)) k0 bel lt0) trodAll_mk0), rfl, bel.frame _, fun h => by cases h⟩
theorem over : Rows.fnExactGoodKeptRow.holds Tryz.pinned (OpenSpec.ofChange Rows.fnExactGoodKeptSpec) :=
  OpenClaim.holds_of_wide 8 Tryz.f8 rfl rfl rfl rfl rfl rfl rfl ⟨rfl, rfl, rfl, rfl, rfl⟩ rfl rfl rfl rfl rfl (by kernel_rfl) Tryz.func8 (by kernel_rfl)
    (of_decide_eq_true (by kernel_rfl)) (by unfold Func.isWrapper; first | (rw [if_pos (by decide +kernel)]; kernel_rfl) | (rw [if_neg (by decide +kernel)]; exact ⟨rfl, rfl⟩))
    (fun os started H enc _ => lifted os started H enc)
theorem proved : Rows.FnExactGoodKeptSaid := over
#print axioms proved
end Go.Proofs.YtebdamodeonbeaaGreatDoor.fnExactGoodKept
namespace Go.Proofs.YtebdamodeonbeaaGreatDoor
/-- The statement, under a short name, for the claim. -/
theorem fnExactGoodKept_holds : Rows.FnExactGoodKeptCardSaid :=
  Claim7.holds_tied_plain_at .later [] [.data, .data, .data, .data, .sentinel, .sentinel, .pinned] true (true, "cb167bee90101c79a34664f048198a13214eba98b0c42bcd567eec0225453ca6") true
    fnExactGoodKept.proved (fun _ h => by cases h) (by kernel_rfl) (fun _ h => by cases h) fnExactGoodKept_row_tie rfl ⟨rfl, rfl⟩ (by kernel_rfl) rfl
    (fun f fn hf hfn => by
      obtain rfl : f = 8 := Option.some.inj ((show Tryz.prog.funcNamed "loop.example/g00256/laws.FnExactGoodKept" = some 8 by kernel_rfl).symm.trans hf) |>.symm
      obtain rfl : fn = Tryz.f8 := (Option.some.inj (Tryz.func8.symm.trans hfn)).symm
      exact ⟨by kernel_rfl, fun j t ht => by
        rw [Tryz.params8] at ht
        have hm : t ∈ [46] := by simpa using Array.mem_of_getElem? ht
        have hall : ([46].all fun u => !Tryz.prog.wantsStandIn u) = true := by kernel_rfl
        exact (show Tryz.prog.wantsStandIn t = false by simpa using List.all_eq_true.1 hall t hm)⟩)
    (by kernel_rfl)
end Go.Proofs.YtebdamodeonbeaaGreatDoor

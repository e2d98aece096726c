/- Tokens and printed texts, fields: the reference's and the program's judgements are one. No condition. -/
import Derived.Test.YtebdamodeonbeaaGreatDoorF1
import Derived.Test.YtebdamodeonbeaaGreatDoorF3
import Derived.Test.YtebdamodeonbeaaGreatDoorQPrinted
import Derived.Test.YtebdamodeonbeaaGreatDoorQTrim
import Derived.Test.YtebdamodeonbeaaGreatDoorQBt
namespace Go.Proofs.YtebdamodeonbeaaGreatDoor.Q
set_option linter.unusedVariables false
set_option linter.unusedSimpArgs false
open Go.RowKit Go.Proofs.YtebdamodeonbeaaGreatDoor.F Go.Proofs.YtebdamodeonbeaaGreatDoorHw Go.Proofs.YtebdamodeonbeaaGreatDoorPl Go.Proofs.YtebdamodeonbeaaGreatDoorW.PrintWords
def tokB (b : Int) : Bool := (impl_isToken_1.f b).getD false
set_option maxRecDepth 100000 in
theorem tok_byte : ∀ b : Fin 256, spec_l3TokenByte.f 20 (b.val : Int) = some (tokB b.val) ∧ impl_isToken_1.f (b.val : Int) = some (tokB b.val) := by decide +kernel
theorem within_tok (a b c : Int) : impl_within.f a b c = some (decide (b ≤ a) && decide (a ≤ c)) := by
  unfold impl_within.f
  by_cases h : b ≤ a
  · rw [if_pos h, decide_eq_true h]; rfl
  · rw [if_neg h, decide_eq_false h]; rfl
theorem in_tok (a b c : Int) : spec_l1In.f a b c = some (decide (b ≤ a) && decide (a ≤ c)) := by
  unfold spec_l1In.f
  by_cases h : a ≥ b
  · rw [if_pos h, decide_eq_true (show b ≤ a from h)]; rfl
  · rw [if_neg h, decide_eq_false (show ¬ b ≤ a from h)]; rfl
def tokenB (s : ByteArray) : Bool := (decide (1 ≤ (s.size : Int)) && decide ((s.size : Int) ≤ 60)) && (numsOf s).all tokB
theorem token_spec (s : ByteArray) (hs : s.size ≤ 9223372036854775807) : Ev (fun k => spec_l3Token.f k s) (tokenB s) := by
  have M : ∀ (d i : Nat), i + d = s.size → Ev (fun k => spec_l3Token.l0 k s (i : Int)) (if ((numsOf s).drop i).all tokB then (decide (1 ≤ (s.size : Int)) && decide ((s.size : Int) ≤ 60)) else false) := by
    intro d
    induction d with
    | zero =>
      intro i hi
      obtain rfl : i = s.size := by omega
      rw [List.drop_eq_nil_of_le (by rw [numsOf_length]; omega)]
      refine Ev.step (fun k => rfl) ?_
      simp only [spec_l3Token.l0]
      exact Ev.neg (by omega) (Ev.bnd (in_tok _ 1 60) (Ev.now _))
    | succ d ih =>
      intro i hi
      have hlt : i < s.size := by omega
      obtain ⟨b, hb⟩ := bt_byte s (i : Int)
      have E := Ev.of (g := fun k => spec_l3TokenByte.f k (b.val : Int)) (fun k => spec_l3TokenByte.mono _ k) (tok_byte b).1
      have hi2 := ih (i + 1) (by omega)
      rw [numsOf_drop s i hlt, List.all_cons, hb]
      refine Ev.step (fun k => rfl) ?_
      simp only [spec_l3Token.l0]
      rw [hb, wrap_succ hlt hs]
      refine Ev.pos (by omega) (Ev.pos (by omega) (Ev.bind E ?_))
      cases hq : tokB (b.val : Int) with
      | true => simp only [Bool.true_and]; exact Ev.pos (by trivial) hi2
      | false => simp only [Bool.false_and]; exact Ev.neg (by decide) (Ev.now _)
  unfold spec_l3Token.f tokenB
  have h := M s.size 0 (by omega)
  rw [List.drop_zero] at h
  refine Ev.eq (g := fun k => spec_l3Token.l0 k s ((0 : Nat) : Int)) h ?_
  cases (numsOf s).all tokB <;> simp
theorem token_impl (s : ByteArray) (hs : s.size ≤ 9223372036854775807) : impl_isToken.f s = some (tokenB s) := by
  have h : impl_areBytes_71.f s () = some ((numsOf s).all tokB) := by
    unfold impl_areBytes_71.f
    rw [if_pos hs]
    refine allO_all (fun x hx => ?_)
    obtain ⟨b, rfl⟩ := numsOf_mem s x hx
    exact (tok_byte b).2
  unfold impl_isToken.f tokenB
  rw [within_tok, h]
  simp only [Option.bind_some]
  cases decide (1 ≤ (s.size : Int)) && decide ((s.size : Int) ≤ 60) with
  | true => rw [if_pos rfl]; simp
  | false => rw [if_neg (by decide)]; simp
end Go.Proofs.YtebdamodeonbeaaGreatDoor.Q

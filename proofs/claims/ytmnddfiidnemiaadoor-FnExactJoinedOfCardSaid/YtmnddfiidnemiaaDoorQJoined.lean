/- The values joined: the reference's loop and the library's Join are one. No condition. -/
import Derived.Test.YtmnddfiidnemiaaDoorF3
import Derived.Test.YtmnddfiidnemiaaDoorF4
import Derived.Test.YtmnddfiidnemiaaDoorQJoin
import Derived.Test.YtmnddfiidnemiaaDoorQList
namespace Go.Proofs.YtmnddfiidnemiaaDoor.Q
set_option linter.unusedVariables false
set_option linter.unusedSimpArgs false
open Go.RowKit Go.Proofs.YtmnddfiidnemiaaDoor.F Go.Proofs.YtmnddfiidnemiaaDoorHw Go.Proofs.YtmnddfiidnemiaaDoorPl Go.Proofs.YtmnddfiidnemiaaDoorW.PrintWords
abbrev Cm : ByteArray := ⟨#[44, 32]⟩
theorem cm_size : Cm.size = 2 := rfl
theorem join_spec (ws : List ByteArray) (hn : ws.length ≤ 1000) (hs : ∀ w ∈ ws, w.size ≤ 1000) :
    (txt (joined ws ([44, 32] : List UInt8))).size ≤ 1002 * ws.length ∧ Ev (fun k => spec_l3Joined.l0 k (⟨#[]⟩ : ByteArray) ws ws (ws.length : Int) 0) (txt (joined ws ([44, 32] : List UInt8)), decide (ws.length > 0)) := by
  have M : ∀ (d i : Nat), i + d = ws.length → (txt (joined (ws.take i) ([44, 32] : List UInt8))).size ≤ 1002 * i →
      (txt (joined ws ([44, 32] : List UInt8))).size ≤ 1002 * ws.length ∧ Ev (fun k => spec_l3Joined.l0 k (txt (joined (ws.take i) ([44, 32] : List UInt8))) ws ws (ws.length : Int) (i : Int)) (txt (joined ws ([44, 32] : List UInt8)), decide (ws.length > 0)) := by
    intro d
    induction d with
    | zero =>
      intro i hi hb
      obtain rfl : i = ws.length := by omega
      rw [List.take_length] at hb ⊢
      refine ⟨hb, Ev.step (fun k => rfl) ?_⟩
      simp only [spec_l3Joined.l0]
      refine Ev.neg (by omega) (Ev.eq (Ev.now _) ?_)
      rw [show decide ((ws.length : Int) > 0) = decide (ws.length > 0) by rw [Bool.eq_iff_iff, decide_eq_true_iff, decide_eq_true_iff]; omega]
    | succ d ih =>
      intro i hi hb
      have hlt : i < ws.length := by omega
      have hw : ws[i].size ≤ 1000 := hs _ (List.getElem_mem hlt)
      have ht := List.take_succ_eq_append_getElem hlt
      by_cases h0 : i = 0
      · subst h0
        have e : txt (joined (ws.take (0 + 1)) ([44, 32] : List UInt8)) = txt (joined (ws.take 0) ([44, 32] : List UInt8)) ++ ws[0] := by
          rw [ht, List.take_zero, List.nil_append, joined_one, txt_data]
          show _ = ByteArray.empty ++ ws[0]
          rw [ByteArray.empty_append]
        obtain ⟨z1, z2⟩ := ih (0 + 1) (by omega) (by rw [e, ByteArray.size_append]; omega)
        refine ⟨z1, Ev.step (fun k => rfl) ?_⟩
        simp only [spec_l3Joined.l0]
        rw [rdOf_get ws 0 hlt, wrap_succ hlt (by omega), ← e]
        exact Ev.pos (by omega) (Ev.pos (by omega) (Ev.pos (by omega) (Ev.neg (by omega) (Ev.pos (by omega) z2))))
      · have hne : ws.take i ≠ [] := fun e => by
          rcases List.take_eq_nil_iff.1 e with h | h
          · exact h0 h
          · rw [h] at hlt; exact absurd hlt (Nat.not_lt_zero _)
        have e : txt (joined (ws.take (i + 1)) ([44, 32] : List UInt8)) = (txt (joined (ws.take i) ([44, 32] : List UInt8)) ++ Cm) ++ ws[i] := by
          rw [ht, joined_snoc _ _ _ hne, txt_append, txt_append, txt_data, ByteArray.append_assoc]
          rfl
        obtain ⟨z1, z2⟩ := ih (i + 1) (by omega) (by rw [e, ByteArray.size_append, ByteArray.size_append, cm_size]; omega)
        refine ⟨z1, Ev.step (fun k => rfl) ?_⟩
        rw [e] at z2
        simp only [spec_l3Joined.l0]
        rw [rdOf_get ws i hlt, wrap_succ hlt (by omega)]
        exact Ev.pos (by omega) (Ev.pos (by omega) (Ev.pos (by omega) (Ev.pos (by omega) (Ev.pos (by omega) (Ev.pos (by rw [ByteArray.size_append, cm_size]; omega) z2)))))
  exact M ws.length 0 (by omega) (Nat.le_refl _)
theorem join_impl (ws : List ByteArray) (hn : ws.length ≤ 1000) (hb : (txt (joined ws ([44, 32] : List UInt8))).size ≤ 1002 * ws.length) : strings_Join.f ws Cm = some (txt (joined ws ([44, 32] : List UInt8))) := by
  unfold strings_Join.f
  have h2 : (Lib.join (ws.map (·.data.toList)) ([44, 32] : List UInt8)).length ≤ 1002 * ws.length := by
    have := txt_size (joined ws ([44, 32] : List UInt8))
    unfold joined at this hb
    omega
  rw [show Cm.data.toList = ([44, 32] : List UInt8) from rfl, if_pos ⟨by omega, by omega⟩]
  rfl
end Go.Proofs.YtmnddfiidnemiaaDoor.Q

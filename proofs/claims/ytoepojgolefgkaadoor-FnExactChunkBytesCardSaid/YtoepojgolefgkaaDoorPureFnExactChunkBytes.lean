/- The pure statement of FnExactChunkBytes. No condition. -/
import Derived.Test.YtoepojgolefgkaaDoorF1
import Derived.Test.YtoepojgolefgkaaDoorQHex
import Derived.Test.YtoepojgolefgkaaDoorQStrs
import Derived.Test.YtoepojgolefgkaaDoorQBt
namespace Go.Proofs.YtoepojgolefgkaaDoor.Pure
set_option linter.unusedVariables false
set_option linter.unusedSimpArgs false
open Go.RowKit Go.Proofs.YtoepojgolefgkaaDoor.F Go.Proofs.YtoepojgolefgkaaDoor.Q Go.Proofs.YtoepojgolefgkaaDoorHw Go.Proofs.YtoepojgolefgkaaDoorPl Go.Proofs.YtoepojgolefgkaaDoorW.PrintWords
theorem eq_strings (l : List ByteArray) (hl : l.length ≤ 1000000000) : Ev (fun k => laws_eqStringS.f k l l) true := by
  unfold laws_eqStringS.f
  refine Ev.pos rfl (go_to (fun k i => laws_eqStringS.l0 k l l i) l.length true ?_ l.length 0 (by omega) (fun j _ hj h => ?_))
  · refine Ev.step (fun k => rfl) ?_
    simp only [laws_eqStringS.l0]
    exact Ev.neg (by omega) (Ev.now _)
  · refine Ev.step (fun k => rfl) ?_
    simp only [laws_eqStringS.l0]
    rw [wrap_succ hj (by omega)]
    exact Ev.pos (by omega) (Ev.pos (by omega) (Ev.pos (by omega) (Ev.pos (by trivial) h)))
def piece (x : ByteArray) : ByteArray := ((hexOf x.size ++ (⟨#[13, 10]⟩ : ByteArray)) ++ x) ++ (⟨#[13, 10]⟩ : ByteArray)
theorem two_size : (⟨#[13, 10]⟩ : ByteArray).size = 2 := rfl
theorem piece_size (x : ByteArray) : (piece x).size ≤ x.size + 8 := by
  have := hexOf_size x.size
  unfold piece
  rw [ByteArray.size_append, ByteArray.size_append, ByteArray.size_append, two_size]; omega
def bodyOf (o : ByteArray) : List ByteArray → ByteArray
  | [] => o
  | x :: r => bodyOf (o ++ piece x) r
def Bad (l : List ByteArray) (n : Nat) (m : Nat) : Prop := (∃ x ∈ l, x.size = 0) ∨ 300 < n + sizes l ∨ 60 < m
theorem bytes_loop (l : List ByteArray) (hl : l.length ≤ 1000000) (hs : sizes l ≤ 65535) : ∀ (d i : Nat) (o : ByteArray), i + d = l.length → o.size ≤ 70000 * i →
    Ev (fun k => spec_l5Bytes.l0 k o l (l.length : Int) (i : Int)) (bodyOf o (l.drop i) ++ (⟨#[48, 13, 10, 13, 10]⟩ : ByteArray)) := by
  intro d
  induction d with
  | zero =>
    intro i o hi ho
    rw [List.drop_eq_nil_of_le (by omega)]
    refine Ev.step (fun k => rfl) ?_
    simp only [spec_l5Bytes.l0]
    exact Ev.neg (by omega) (Ev.pos (by omega) (Ev.now _))
  | succ d ih =>
    intro i o hi ho
    have hlt : i < l.length := by omega
    have hx : l[i].size ≤ 65535 := Nat.le_trans (sizes_mem (List.getElem_mem hlt)) hs
    have hp := piece_size l[i]
    have hh := hexOf_size l[i].size
    have z := ih (i + 1) (o ++ piece l[i]) (by omega) (by rw [ByteArray.size_append]; omega)
    rw [List.drop_eq_getElem_cons hlt]
    refine Ev.step (fun k => rfl) ?_
    simp only [spec_l5Bytes.l0]
    rw [rdOf_get l i hlt, wrap_succ hlt (by omega)]
    refine Ev.pos (by omega) (Ev.pos (by omega) (Ev.pos (by omega) (Ev.bind (hex_spec l[i].size hx) ?_)))
    refine Ev.pos (by omega) (Ev.pos ?_ (Ev.pos ?_ (Ev.pos ?_ z)))
    · rw [ByteArray.size_append, two_size]; omega
    · rw [ByteArray.size_append, ByteArray.size_append, two_size]; omega
    · show o.size + (piece l[i]).size ≤ _; omega
theorem spec_loop (l : List ByteArray) (hl : l.length ≤ 1048576) (hs : sizes l ≤ 1048576) : ∀ (d i n : Nat), i + d = l.length → n + sizes (l.drop i) = sizes l →
    (Bad (l.drop i) n l.length → Ev (fun k => spec_ChunkBytes.l0 k l (n : Int) l (l.length : Int) (i : Int)) ((⟨#[]⟩ : ByteArray), false)) ∧
    (¬ Bad (l.drop i) n l.length → Ev (fun k => spec_ChunkBytes.l0 k l (n : Int) l (l.length : Int) (i : Int)) (bodyOf (⟨#[]⟩ : ByteArray) l ++ (⟨#[48, 13, 10, 13, 10]⟩ : ByteArray), true)) := by
  intro d
  induction d with
  | zero =>
    intro i n hi hn
    rw [List.drop_eq_nil_of_le (by omega)] at hn ⊢
    have hz : sizes ([] : List ByteArray) = 0 := rfl
    refine ⟨fun hb => ?_, fun hb => ?_⟩
    · refine Ev.step (fun k => rfl) ?_
      simp only [spec_ChunkBytes.l0]
      rcases hb with ⟨x, hx, _⟩ | hb | hb
      · cases hx
      · refine Ev.neg (by omega) ?_
        by_cases h6 : (l.length : Int) > 60
        · exact Ev.pos h6 (Ev.now _)
        · exact Ev.neg h6 (Ev.pos (by omega) (Ev.now _))
      · exact Ev.neg (by omega) (Ev.pos (by omega) (Ev.now _))
    · have h1 : ¬ 60 < l.length := fun h => hb (.inr (.inr h))
      have h2 : ¬ 300 < n := fun h => hb (.inr (.inl (by omega)))
      have z := bytes_loop l (by omega) (by omega) l.length 0 (⟨#[]⟩ : ByteArray) (by omega) (by show 0 ≤ _; omega)
      rw [List.drop_zero] at z
      refine Ev.step (fun k => rfl) ?_
      simp only [spec_ChunkBytes.l0]
      have z2 : Ev (fun k => spec_l5Bytes.f k l) (bodyOf (⟨#[]⟩ : ByteArray) l ++ (⟨#[48, 13, 10, 13, 10]⟩ : ByteArray)) := by unfold spec_l5Bytes.f; exact z
      refine Ev.neg (by omega) (Ev.neg (by omega) (Ev.neg (by omega) ?_))
      exact Ev.bind z2 (Ev.now _)
  | succ d ih =>
    intro i n hi hn
    have hlt : i < l.length := by omega
    have hd := List.drop_eq_getElem_cons hlt
    have hsz := sizes_drop l i hlt
    have hx : l[i].size ≤ sizes l := sizes_mem (List.getElem_mem hlt)
    by_cases h0 : l[i].size = 0
    · have hbad : Bad (l.drop i) n l.length := .inl ⟨l[i], by rw [hd]; exact List.mem_cons_self, h0⟩
      refine ⟨fun _ => ?_, fun h => absurd hbad h⟩
      refine Ev.step (fun k => rfl) ?_
      simp only [spec_ChunkBytes.l0]
      rw [rdOf_get l i hlt]
      exact Ev.pos (by omega) (Ev.pos (by omega) (Ev.pos (by omega) (Ev.pos ((list_of_size _).2 h0) (Ev.now _))))
    · have hiff : Bad (l.drop i) n l.length ↔ Bad (l.drop (i + 1)) (n + l[i].size) l.length := by
        unfold Bad
        rw [hsz, hd]
        constructor
        · rintro (⟨x, hx, h⟩ | h | h)
          · rcases List.mem_cons.1 hx with rfl | hx
            · exact absurd h h0
            · exact .inl ⟨x, hx, h⟩
          · exact .inr (.inl (by omega))
          · exact .inr (.inr h)
        · rintro (⟨x, hx, h⟩ | h | h)
          · exact .inl ⟨x, List.mem_cons_of_mem _ hx, h⟩
          · exact .inr (.inl (by omega))
          · exact .inr (.inr h)
      have step : ∀ r, Ev (fun k => spec_ChunkBytes.l0 k l ((n + l[i].size : Nat) : Int) l (l.length : Int) ((i + 1 : Nat) : Int)) r → Ev (fun k => spec_ChunkBytes.l0 k l (n : Int) l (l.length : Int) (i : Int)) r := by
        intro r hr
        refine Ev.step (fun k => rfl) ?_
        simp only [spec_ChunkBytes.l0]
        rw [rdOf_get l i hlt, wrap_succ hlt (by omega), wrap_add (by omega)]
        exact Ev.pos (by omega) (Ev.pos (by omega) (Ev.pos (by omega) (Ev.neg (fun h => h0 ((list_of_size _).1 h)) hr)))
      obtain ⟨z1, z2⟩ := ih (i + 1) (n + l[i].size) (by omega) (by omega)
      exact ⟨fun h => step _ (z1 (hiff.1 h)), fun h => step _ (z2 (fun h' => h (hiff.2 h')))⟩
theorem impl_loop (l : List ByteArray) (hl : l.length ≤ 1048576) (hs : sizes l ≤ 1048576) : ∀ (d i n : Nat) (o : ByteArray), i + d = l.length → n + sizes (l.drop i) = sizes l → n ≤ 300 → o.size ≤ 70000 * i →
    (Bad (l.drop i) n l.length → Ev (fun k => impl_ChunkBytes.l0 k l o (n : Int) l (l.length : Int) (i : Int)) ((⟨#[]⟩ : ByteArray), false)) ∧
    (¬ Bad (l.drop i) n l.length → Ev (fun k => impl_ChunkBytes.l0 k l o (n : Int) l (l.length : Int) (i : Int)) (bodyOf o (l.drop i) ++ (⟨#[48, 13, 10, 13, 10]⟩ : ByteArray), true)) := by
  intro d
  induction d with
  | zero =>
    intro i n o hi hn h3 ho
    rw [List.drop_eq_nil_of_le (by omega)] at hn ⊢
    have hz : sizes ([] : List ByteArray) = 0 := rfl
    refine ⟨fun hb => ?_, fun hb => ?_⟩
    · refine Ev.step (fun k => rfl) ?_
      simp only [impl_ChunkBytes.l0]
      rcases hb with ⟨x, hx, _⟩ | hb | hb
      · cases hx
      · omega
      · exact Ev.neg (by omega) (Ev.pos (by omega) (Ev.now _))
    · have h1 : ¬ 60 < l.length := fun h => hb (.inr (.inr h))
      refine Ev.step (fun k => rfl) ?_
      simp only [impl_ChunkBytes.l0]
      exact Ev.neg (by omega) (Ev.neg (by omega) (Ev.pos (by omega) (Ev.now _)))
  | succ d ih =>
    intro i n o hi hn h3 ho
    have hlt : i < l.length := by omega
    have hd := List.drop_eq_getElem_cons hlt
    have hsz := sizes_drop l i hlt
    have hx : l[i].size ≤ sizes l := sizes_mem (List.getElem_mem hlt)
    by_cases h0 : l[i].size = 0
    · have hbad : Bad (l.drop i) n l.length := .inl ⟨l[i], by rw [hd]; exact List.mem_cons_self, h0⟩
      refine ⟨fun _ => ?_, fun h => absurd hbad h⟩
      refine Ev.step (fun k => rfl) ?_
      simp only [impl_ChunkBytes.l0]
      rw [rdOf_get l i hlt]
      exact Ev.pos (by omega) (Ev.pos (by omega) (Ev.pos (by omega) (Ev.pos ((list_of_size _).2 h0) (Ev.now _))))
    · by_cases h4 : 300 < n + l[i].size
      · have hbad : Bad (l.drop i) n l.length := .inr (.inl (by omega))
        refine ⟨fun _ => ?_, fun h => absurd hbad h⟩
        refine Ev.step (fun k => rfl) ?_
        simp only [impl_ChunkBytes.l0]
        rw [rdOf_get l i hlt, wrap_add (by omega)]
        exact Ev.pos (by omega) (Ev.pos (by omega) (Ev.pos (by omega) (Ev.neg (fun h => h0 ((list_of_size _).1 h)) (Ev.pos (by omega) (Ev.now _)))))
      have hiff : Bad (l.drop i) n l.length ↔ Bad (l.drop (i + 1)) (n + l[i].size) l.length := by
        unfold Bad
        rw [hsz, hd]
        constructor
        · rintro (⟨x, hx, h⟩ | h | h)
          · rcases List.mem_cons.1 hx with rfl | hx
            · exact absurd h h0
            · exact .inl ⟨x, hx, h⟩
          · exact .inr (.inl (by omega))
          · exact .inr (.inr h)
        · rintro (⟨x, hx, h⟩ | h | h)
          · exact .inl ⟨x, List.mem_cons_of_mem _ hx, h⟩
          · exact .inr (.inl (by omega))
          · exact .inr (.inr h)
      have hp := piece_size l[i]
      have hh := hexOf_size l[i].size
      have step : ∀ r, Ev (fun k => impl_ChunkBytes.l0 k l (o ++ piece l[i]) ((n + l[i].size : Nat) : Int) l (l.length : Int) ((i + 1 : Nat) : Int)) r → Ev (fun k => impl_ChunkBytes.l0 k l o (n : Int) l (l.length : Int) (i : Int)) r := by
        intro r hr
        refine Ev.step (fun k => rfl) ?_
        simp only [impl_ChunkBytes.l0]
        rw [rdOf_get l i hlt, wrap_succ hlt (by omega), wrap_add (by omega)]
        refine Ev.pos (by omega) (Ev.pos (by omega) (Ev.pos (by omega) (Ev.neg (fun h => h0 ((list_of_size _).1 h)) (Ev.neg (by omega) (Ev.bnd (hex_impl l[i].size (by omega)) ?_)))))
        refine Ev.pos (by omega) (Ev.pos ?_ (Ev.pos ?_ (Ev.pos ?_ hr)))
        · rw [ByteArray.size_append, two_size]; omega
        · rw [ByteArray.size_append, ByteArray.size_append, two_size]; omega
        · show o.size + (piece l[i]).size ≤ _; omega
      obtain ⟨z1, z2⟩ := ih (i + 1) (n + l[i].size) (o ++ piece l[i]) (by omega) (by omega) (by omega) (by rw [ByteArray.size_append]; omega)
      refine ⟨fun h => step _ (z1 (hiff.1 h)), fun h => step _ ?_⟩
      rw [hd]
      exact z2 (fun h' => h (hiff.2 h'))
theorem FnExactChunkBytes : laws_FnExactChunkBytes.Pure := by
  intro l hl hs
  apply Ev.rounds
  unfold laws_FnExactChunkBytes.f
  obtain ⟨t, t1, t2, t3⟩ := sz_strings l 1048576 hl hs (by omega) (by omega)
  refine Ev.bind t1 ?_
  by_cases ht : t < 0
  · exact Ev.pos ht (Ev.now _)
  · have h3 := t3 ht
    have hc := to_strings l (by omega)
    obtain ⟨r, r1, r2⟩ : ∃ r : ByteArray × Bool, Ev (fun k => spec_ChunkBytes.f k l) r ∧ Ev (fun k => impl_ChunkBytes.f k l) r := by
      unfold spec_ChunkBytes.f impl_ChunkBytes.f
      have a := spec_loop l (by omega) (by omega) l.length 0 0 (by omega) (by rw [List.drop_zero]; omega)
      have b := impl_loop l (by omega) (by omega) l.length 0 0 (⟨#[]⟩ : ByteArray) (by omega) (by rw [List.drop_zero]; omega) (by omega) (by show 0 ≤ _; omega)
      rw [List.drop_zero] at a b
      by_cases hb : Bad l 0 l.length
      · exact ⟨_, a.1 hb, b.1 hb⟩
      · exact ⟨_, a.2 hb, b.2 hb⟩
    refine Ev.neg ht (Ev.bind hc (Ev.bind r1 (Ev.bind hc (Ev.bind r2 (Ev.pos rfl ?_)))))
    refine Ev.step (fun k => rfl) ?_
    simp only [laws_FnExactChunkBytes.j0]
    refine Ev.neg ?_ (Ev.bind hc (Ev.bind (eq_strings l (by omega)) (Ev.pos (by trivial) (Ev.now _))))
    obtain ⟨a, b⟩ := r
    cases b <;> exact Bool.false_ne_true
end Go.Proofs.YtoepojgolefgkaaDoor.Pure

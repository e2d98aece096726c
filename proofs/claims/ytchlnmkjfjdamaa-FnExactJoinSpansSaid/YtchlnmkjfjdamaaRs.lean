/- A slice that came in as an argument, laid open as a row of elements. No condition. -/
import Derived.Test.YtchlnmkjfjdamaaRk
import Derived.Test.YtchlnmkjfjdamaaWWords
import Derived.DataElems
namespace Go.Proofs.YtchlnmkjfjdamaaRs
set_option linter.unusedVariables false
set_option linter.unusedSimpArgs false
open Go.RowKit Go.Joins Go.ChangeShapes Go.WideShapes Go.Deep Go.Proofs.YtchlnmkjfjdamaaW.PrintWords
variable {H : Type} {enc : TypeId × Value → H} {P : Program} {w : World} {base : Nat} {spare : Nat → Bool} {held : Bool}
theorem elem_struct {t : TypeId} {fs : Array Field} {n : Nat} {cs : List Value} {y : DataW H × List MemPlace} (hs : P.underlying t = some (.struct fs)) (hone : oneCellFields P fs = true) (hC : P.cellsOf t = fs.size)
    (h : DataW.trod enc P w base spare held n t cs = some y) :
    cs.length = fs.size ∧ ∃ m, ∀ (j : Nat) (f : Field), fs[j]? = some f → ∃ (c : Value) (z : DataW H × List MemPlace), cs[j]? = some c ∧ DataW.trod enc P w base spare held m f.type [c] = some z := by
  obtain ⟨xs, m, _, hx, hl, hlen, hg⟩ := DataW.trod_struct hs h
  have hll : cs.length = fs.size := hl.trans hC
  refine ⟨hll, m, fun j f hj => ?_⟩
  obtain ⟨o, k⟩ := Go.Deep.hone_of hone j f hj
  have hjl : j < fs.size := (Array.getElem?_eq_some_iff.1 hj).1
  have h1 := hg j f hj
  rw [o, k, List.drop_eq_getElem_cons (by omega)] at h1
  exact ⟨cs[j]'(by omega), xs[j]'(by omega), List.getElem?_eq_getElem (by omega), h1.trans (List.getElem?_eq_getElem (by omega))⟩
/-- A slice's value, laid open. -/
theorem open_row {α : Type} (d : Kd α) (en : α → List Value) (good : α → Prop) {t e : TypeId} {fuel : Nat} {cs : List Value} {y : DataW H × List MemPlace} (hu : P.underlying t = some (.slice e)) (hc : P.cellsOf e = d.sz)
    (hK : ∀ w x, d.K w x (en x)) (hlen : ∀ x, (en x).length = d.sz)
    (hel : ∀ n cs y, DataW.trod enc P w base spare held n e cs = some y → ∃ x, cs = en x ∧ good x)
    (h : DataW.trod enc P w base spare held fuel t cs = some y) :
    ∃ (A : Option Addr) (xs : List α) (c : Nat), cs = [.slice A xs.length c] ∧ xs.length ≤ c ∧ Kd.C d w A xs.length xs ∧ (∀ x ∈ xs, good x) := by
  rcases DataW.trod_slice hu h with ⟨rfl, _⟩ | ⟨a, len, cap, elems, rest, n, _, rfl, _, hb, hl, hm, hln, hE, _, _⟩
  · exact ⟨none, [], 0, rfl, Nat.le_refl _, ⟨rfl, Nat.zero_le _, fun h => absurd h (Nat.lt_irrefl _)⟩, fun x hx => absurd hx List.not_mem_nil⟩
  · have each : ∀ i : Fin len, ∃ x : α, w.cells? base (a.add (i.val * d.sz)) d.sz = some (en x) ∧ good x := fun i => by
      have h1 := hE i.val i.isLt
      rw [List.getElem?_eq_getElem (by rw [hln]; exact i.isLt), hc] at h1
      obtain ⟨cs', hcs, hy⟩ := Option.bind_eq_some_iff.1 h1
      obtain ⟨x, rfl, hg⟩ := hel _ _ _ hy
      exact ⟨x, hcs, hg⟩
    have hsz : (List.ofFn fun i => Classical.choose (each i)).length = len := List.length_ofFn
    refine ⟨some a, List.ofFn fun i => Classical.choose (each i), cap, by rw [hsz], by rw [hsz]; exact hl, ⟨rfl, by rw [hsz]; unfold maxLen at hm; omega, fun _ => ⟨a, rfl, fun j p hj => ?_⟩⟩, fun x hx => ?_⟩
    · have hjl : j < len := by
        have := (List.getElem?_eq_some_iff.1 hj).1
        omega
      have hp : p = Classical.choose (each ⟨j, hjl⟩) := by
        rw [List.getElem?_ofFn, dif_pos hjl] at hj
        exact (Option.some.inj hj).symm
      obtain ⟨s1, s2⟩ := Classical.choose_spec (each ⟨j, hjl⟩)
      rw [← hp] at s1
      obtain ⟨_, _, s3⟩ := World.cells?_some s1
      refine ⟨en p, hlen p, hK w p, fun i u hi => ?_⟩
      have hi' : i < d.sz := by
        have := (List.getElem?_eq_some_iff.1 hi).1
        rw [hlen] at this
        exact this
      rw [← Addr.add_add]
      exact (s3 i hi').trans hi
    · obtain ⟨i, rfl⟩ := List.mem_ofFn.1 hx
      exact (Classical.choose_spec (each i)).2
end Go.Proofs.YtchlnmkjfjdamaaRs

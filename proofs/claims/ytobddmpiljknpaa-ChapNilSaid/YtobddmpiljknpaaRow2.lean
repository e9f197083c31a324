/-
  What an argument's reading gives of structs and of slices of structs. No condition.
-/
import Derived.Test.YtobddmpiljknpaaRow
namespace Go.Proofs.Ytobddmpiljknpaa
open Go.ChangeShapes Go.WideShapes Go.ChangeAt Go.RowKit
set_option linter.unusedVariables false
set_option linter.unusedSimpArgs false

/-- Where for each place there is something, there is a list of it. -/
theorem list_of {α : Type} {n : Nat} {p : Nat → α → Prop} (h : ∀ i, i < n → ∃ x, p i x) : ∃ l : List α, l.length = n ∧ ∀ (i : Nat) (x : α), l[i]? = some x → p i x := by
  induction n with
  | zero => exact ⟨[], rfl, fun i x hx => by cases hx⟩
  | succ n ih =>
    obtain ⟨l, hl, hp⟩ := ih fun i hi => h i (by omega)
    obtain ⟨x, hx⟩ := h n (by omega)
    refine ⟨l ++ [x], by simp [hl], fun i y hy => ?_⟩
    rcases Nat.lt_or_ge i n with hi | hi
    · rw [List.getElem?_append_left (by omega)] at hy
      exact hp i y hy
    · have hi' : i < (l ++ [x]).length := (List.getElem?_eq_some_iff.1 hy).1
      rw [List.length_append, List.length_singleton] at hi'
      obtain rfl : i = n := by omega
      rw [List.getElem?_append_right (by omega), hl, Nat.sub_self] at hy
      injection hy with hy
      rw [← hy]
      exact hx

section
variable {U : Nat} {P : Program} {W : World} {t e : TypeId} {k : IntKind} {v : Value} {cs : List Value}
theorem weights_part {H : Type} {P : Program} : ∀ (ts : List TypeId) (ds : List (DataW H)) (i : Nat) (t : TypeId) (d : DataW H), ts[i]? = some t → ds[i]? = some d → ∀ n ∈ d.weights P t, n ∈ DataW.weightsEach P ts ds :=
  fun _ _ _ _ _ ht hd n hn => DataW.weights_mem_each ht hd n hn
theorem ArgC.len {fs : Array Field} (ht : P.underlying t = some (.struct fs)) (h : ArgC U P W t cs) : cs.length = P.cellsOf t := by
  obtain ⟨H, enc, fuel, d, ps, h, hw, hU⟩ := h
  obtain ⟨xs, n, _, _, h3, _⟩ := DataW.trod_struct ht h
  exact h3
/-- A field of a struct. -/
theorem ArgC.field {fs : Array Field} (ht : P.underlying t = some (.struct fs)) (h : ArgC U P W t cs) {i : Nat} {f : Field} (hf : fs[i]? = some f) : ArgC U P W f.type ((cs.drop f.offset).take (P.cellsOf f.type)) := by
  obtain ⟨H, enc, fuel, d, ps, h, hw, hU⟩ := h
  obtain ⟨xs, n, _, h2, _, h4, h5⟩ := DataW.trod_struct ht h
  simp only [Prod.mk.injEq] at h2
  obtain ⟨rfl, _⟩ := h2
  have hi : i < xs.length := by
    rw [h4]
    exact (Array.getElem?_eq_some_iff.1 hf).1
  have h6 := h5 i f hf
  rw [List.getElem?_eq_getElem hi] at h6
  refine ⟨H, enc, n, xs[i].1, xs[i].2, h6, fun m hm => hw m ?_, ?_⟩
  · simp only [DataW.weights, ht]
    refine weights_part _ _ i f.type xs[i].1 ?_ ?_ m hm
    · rw [List.getElem?_map, Array.getElem?_toList, hf]
      rfl
    · rw [List.getElem?_map, List.getElem?_eq_getElem hi]
      rfl
  · have h7 := bulk_part (l := xs.map (·.1)) (List.mem_map.2 ⟨xs[i], List.getElem_mem hi, rfl⟩)
    simp only [Rows.uptoBulk] at hU
    omega
end
end Go.Proofs.Ytobddmpiljknpaa

/-
  What an argument's reading gives of packets, frames and lists of options. No condition.
-/
import Derived.Test.YtodibldfolognaaRow2
import Derived.Test.YtodibldfolognaaSeat
import Derived.Test.YtodibldfolognaaOpts
namespace Go.Proofs.Ytodibldfolognaa
open Go.ChangeShapes Go.WideShapes Go.ChangeAt Go.RowKit
set_option linter.unusedVariables false
set_option linter.unusedSimpArgs false

theorem Arg.struct {P : Program} {U : Nat} {W : World} {t : TypeId} {v : Value} {fs : Array Field} (ht : P.underlying t = some (.struct fs)) (h : Arg U P W t v) : ∃ cs : List Value, v = .agg cs.toArray ∧ ArgC U P W t cs := by
  obtain ⟨⟨base, hok⟩, h⟩ := h
  obtain ⟨cs, rfl, _⟩ := okWide_struct ht hok
  exact ⟨cs.toList, by simp, by simpa [Value.cells] using h⟩
theorem sz_int : Try.prog.cellsOf 3 = 1 := by kernel_rfl
theorem sz_bytes : Try.prog.cellsOf 41 = 1 := by kernel_rfl
theorem sz_option : Try.prog.cellsOf 119 = 2 := by kernel_rfl
theorem bytes_option : Try.prog.bytesOf 119 = 32 := by kernel_rfl
theorem sz_packet : Try.prog.cellsOf 43 = 3 := by kernel_rfl
/-- A slice of bytes in a cell. -/
theorem ArgC.byts {U : Nat} {W : World} {cs : List Value} (h : ArgC U Try.prog W 41 cs) : ∃ A n c xs, cs = [.slice A n c] ∧ xs.length = n ∧ n ≤ c ∧ n ≤ 140737488351232 ∧ Cells W A (Proofs.Ytodibldfolognaa.nums .u8 xs) ∧ Byt xs := by
  obtain ⟨A, n, c, xs, h1, hl, hnc, _, hbb, _, hC, hw⟩ := h.nums Try.underlying41 Try.underlying5 cells_u8
  rw [bytes_u8, Nat.mul_one] at hbb
  exact ⟨_, _, _, xs, h1, hl, hnc, hbb, hC, fun x hx => wf_u8 (hw x hx)⟩
theorem arg_packet {U : Nat} {W : World} {v : Value} (h : Arg U Try.prog W 43 v) : ∃ code id A n c xs, v = .agg #[.int .i64 code, .int .i64 id, .slice A n c] ∧ xs.length = n ∧ n ≤ 140737488351232 ∧ n ≤ c ∧ Cells W A (Proofs.Ytodibldfolognaa.nums .u8 xs) ∧ Byt xs ∧
    (-9223372036854775808 ≤ code ∧ code ≤ 9223372036854775807) ∧ -9223372036854775808 ≤ id ∧ id ≤ 9223372036854775807 := by
  obtain ⟨cs, rfl, h'⟩ := Arg.struct Try.underlying43 h
  clear h
  have h := h'
  have hl := h.len Try.underlying43
  rw [sz_packet] at hl
  match cs, hl with
  | [x, y, z], _ =>
    have h0 : ArgC U Try.prog W 3 (([x, y, z].drop 0).take (Try.prog.cellsOf 3)) := h.field Try.underlying43 (i := 0) rfl
    have h1 : ArgC U Try.prog W 3 (([x, y, z].drop 1).take (Try.prog.cellsOf 3)) := h.field Try.underlying43 (i := 1) rfl
    have h2 : ArgC U Try.prog W 41 (([x, y, z].drop 2).take (Try.prog.cellsOf 41)) := h.field Try.underlying43 (i := 2) rfl
    rw [sz_int] at h0 h1
    rw [sz_bytes] at h2
    obtain ⟨a, e0, w0⟩ := h0.int Try.underlying3
    obtain ⟨b, e1, w1⟩ := h1.int Try.underlying3
    obtain ⟨A, n, c, xs, e2, hl, hnc, hn, hC, hB⟩ := h2.byts
    simp at e0 e1 e2
    subst e0 e1 e2
    exact ⟨_, _, _, _, _, xs, rfl, hl, hn, hnc, hC, hB, wf_i64 w0, wf_i64 w1⟩
/-- A list of options. -/
theorem ArgC.option {U : Nat} {W : World} {cs : List Value} (h : ArgC U Try.prog W 119 cs) : ∃ v : OV, cs = v.cells ∧ v.Ok W ∧ -9223372036854775808 ≤ v.t ∧ v.t ≤ 9223372036854775807 := by
  have hl := h.len Try.underlying119
  rw [sz_option] at hl
  match cs, hl with
  | [x, z], _ =>
    have h0 : ArgC U Try.prog W 3 (([x, z].drop 0).take (Try.prog.cellsOf 3)) := h.field Try.underlying119 (i := 0) rfl
    have h2 : ArgC U Try.prog W 41 (([x, z].drop 1).take (Try.prog.cellsOf 41)) := h.field Try.underlying119 (i := 1) rfl
    rw [sz_int] at h0
    rw [sz_bytes] at h2
    obtain ⟨a, e0, w0⟩ := h0.int Try.underlying3
    obtain ⟨A, n, c, xs, e2, hl, hnc, hn, hC, hB⟩ := h2.byts
    simp at e0 e2
    subst e0 e2
    exact ⟨⟨a, A, n, c, xs⟩, rfl, ⟨hl, hnc, by simp only; omega, hB, hC⟩, wf_i64 w0⟩
theorem flat_at {vs : List OV} {i : Nat} {v : OV} (h : vs[i]? = some v) (j : Nat) (hj : j < 2) : (flat vs)[i * 2 + j]? = v.cells[j]? := by
  obtain ⟨h0, h1⟩ := flat_get h
  match j, hj with
  | 0, _ => rw [Nat.add_zero, h0]; rfl
  | 1, _ => rw [h1]; rfl
/-- Options that came in: a list of them, each readable. -/
def OptArg (W : World) (A : Option Addr) (n c : Nat) (vs : List OV) : Prop :=
  vs.length = n ∧ n ≤ c ∧ c ≤ 9223372036854775807 ∧ n ≤ 4398046511104 ∧ Cells W A (flat vs) ∧ Good W vs ∧ ∀ v ∈ vs, -9223372036854775808 ≤ v.t ∧ v.t ≤ 9223372036854775807
theorem ArgC.options {U : Nat} {W : World} {cs : List Value} (h : ArgC U Try.prog W 29 cs) : ∃ A n c vs, cs = [.slice A n c] ∧ OptArg W A n c vs := by
  obtain ⟨A, n, c, rfl, hnc, hc', hb, hnil, hall⟩ := h.slice Try.underlying29
  rw [bytes_option] at hb
  obtain ⟨vs, hl, hvs⟩ := list_of (n := n) (p := fun i (v : OV) => (∃ ad, A = some ad ∧ ∀ j u, v.cells[j]? = some u → W.cell? (ad.add (i * 2 + j)) = some u) ∧ v.Ok W ∧ -9223372036854775808 ≤ v.t ∧ v.t ≤ 9223372036854775807) (by
    intro i hi
    obtain ⟨ad, es, hA, hes, hcell, harg⟩ := hall i hi
    rw [sz_option] at hcell
    obtain ⟨v, rfl, h1, h2⟩ := harg.option
    exact ⟨v, ⟨ad, hA, hcell⟩, h1, h2⟩)
  have hmem : ∀ v ∈ vs, v.Ok W ∧ -9223372036854775808 ≤ v.t ∧ v.t ≤ 9223372036854775807 := fun v hv => by
    obtain ⟨i, hi, rfl⟩ := List.getElem_of_mem hv
    exact (hvs i _ (List.getElem?_eq_getElem hi)).2
  refine ⟨A, n, c, vs, rfl, hl, hnc, hc', by omega, fun hpos => ?_, fun v hv => (hmem v hv).1, fun v hv => (hmem v hv).2⟩
  rw [flat_length] at hpos
  obtain ⟨⟨ad, hA, _⟩, _⟩ := hvs 0 vs[0] (List.getElem?_eq_getElem (by omega))
  refine ⟨ad, hA, fun j u hu => ?_⟩
  have hj : j < (flat vs).length := (List.getElem?_eq_some_iff.1 hu).1
  rw [flat_length] at hj
  have hi : j / 2 < vs.length := by omega
  have hg : vs[j / 2]? = some vs[j / 2] := List.getElem?_eq_getElem hi
  have hjj : j / 2 * 2 + j % 2 = j := by omega
  have h1 := flat_at hg (j % 2) (by omega)
  rw [hjj, hu] at h1
  obtain ⟨⟨ad', hA', hcell⟩, _⟩ := hvs (j / 2) _ hg
  rw [hA] at hA'
  injection hA' with hA'
  subst hA'
  have := hcell (j % 2) u h1.symm
  rwa [hjj] at this
theorem Arg.options {U : Nat} {W : World} {v : Value} (h : Arg U Try.prog W 29 v) : ∃ A n c vs, v = .slice A n c ∧ OptArg W A n c vs := by
  obtain ⟨A', n', c', rfl⟩ := h.slice_shape Try.underlying29
  obtain ⟨A, n, c, vs, h1, h2⟩ := h.2.options
  simp [Value.cells] at h1
  obtain ⟨rfl, rfl, rfl⟩ := h1
  exact ⟨_, _, _, vs, rfl, h2⟩
/-- A list of whole numbers. -/
theorem Arg.ints {U : Nat} {W : World} {v : Value} (h : Arg U Try.prog W 22 v) : ∃ A n c ks, v = .slice A n c ∧ ks.length = n ∧ n ≤ 9223372036854775807 ∧ Cells W A (Proofs.Ytodibldfolognaa.nums .i64 ks) := by
  obtain ⟨A', n', c', rfl⟩ := h.slice_shape Try.underlying22
  obtain ⟨A, n, c, xs, h1, hl, hnc, hc, _, _, hC, hw⟩ := h.2.nums Try.underlying22 Try.underlying3 sz_int
  simp [Value.cells] at h1
  obtain ⟨rfl, rfl, rfl⟩ := h1
  exact ⟨_, _, _, xs, rfl, hl, by omega, hC⟩
end Go.Proofs.Ytodibldfolognaa

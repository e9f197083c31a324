/-
  What an argument's reading gives of packets, frames and lists of options. No condition.
-/
import Derived.Test.YtobddmpiljknpaaRow2
import Derived.Test.YtobddmpiljknpaaSeat
namespace Go.Proofs.Ytobddmpiljknpaa
open Go.ChangeShapes Go.WideShapes Go.ChangeAt Go.RowKit
set_option linter.unusedVariables false
set_option linter.unusedSimpArgs false

theorem Arg.struct {P : Program} {U : Nat} {W : World} {t : TypeId} {v : Value} {fs : Array Field} (ht : P.underlying t = some (.struct fs)) (h : Arg U P W t v) : ∃ cs : List Value, v = .agg cs.toArray ∧ ArgC U P W t cs := by
  obtain ⟨⟨base, hok⟩, h⟩ := h
  obtain ⟨cs, rfl, _⟩ := okWide_struct ht hok
  exact ⟨cs.toList, by simp, by simpa [Value.cells] using h⟩
theorem sz_int : Try.prog.cellsOf 3 = 1 := by kernel_rfl
theorem sz_bytes : Try.prog.cellsOf 22 = 1 := by kernel_rfl
theorem sz_packet : Try.prog.cellsOf 24 = 3 := by kernel_rfl
/-- A slice of bytes in a cell. -/
theorem ArgC.byts {U : Nat} {W : World} {cs : List Value} (h : ArgC U Try.prog W 22 cs) : ∃ A n c xs, cs = [.slice A n c] ∧ xs.length = n ∧ n ≤ c ∧ n ≤ 140737488351232 ∧ Cells W A (Proofs.Ytobddmpiljknpaa.nums .u8 xs) ∧ Byt xs := by
  obtain ⟨A, n, c, xs, h1, hl, hnc, _, hbb, _, hC, hw⟩ := h.nums Try.underlying22 Try.underlying5 cells_u8
  rw [bytes_u8, Nat.mul_one] at hbb
  exact ⟨_, _, _, xs, h1, hl, hnc, hbb, hC, fun x hx => wf_u8 (hw x hx)⟩
theorem arg_packet {U : Nat} {W : World} {v : Value} (h : Arg U Try.prog W 24 v) : ∃ code id A n c xs, v = .agg #[.int .i64 code, .int .i64 id, .slice A n c] ∧ xs.length = n ∧ n ≤ 140737488351232 ∧ n ≤ c ∧ Cells W A (Proofs.Ytobddmpiljknpaa.nums .u8 xs) ∧ Byt xs ∧
    (-9223372036854775808 ≤ code ∧ code ≤ 9223372036854775807) ∧ -9223372036854775808 ≤ id ∧ id ≤ 9223372036854775807 := by
  obtain ⟨cs, rfl, h'⟩ := Arg.struct Try.underlying24 h
  clear h
  have h := h'
  have hl := h.len Try.underlying24
  rw [sz_packet] at hl
  match cs, hl with
  | [x, y, z], _ =>
    have h0 : ArgC U Try.prog W 3 (([x, y, z].drop 0).take (Try.prog.cellsOf 3)) := h.field Try.underlying24 (i := 0) rfl
    have h1 : ArgC U Try.prog W 3 (([x, y, z].drop 1).take (Try.prog.cellsOf 3)) := h.field Try.underlying24 (i := 1) rfl
    have h2 : ArgC U Try.prog W 22 (([x, y, z].drop 2).take (Try.prog.cellsOf 22)) := h.field Try.underlying24 (i := 2) rfl
    rw [sz_int] at h0 h1
    rw [sz_bytes] at h2
    obtain ⟨a, e0, w0⟩ := h0.int Try.underlying3
    obtain ⟨b, e1, w1⟩ := h1.int Try.underlying3
    obtain ⟨A, n, c, xs, e2, hl, hnc, hn, hC, hB⟩ := h2.byts
    simp at e0 e1 e2
    subst e0 e1 e2
    exact ⟨_, _, _, _, _, xs, rfl, hl, hn, hnc, hC, hB, wf_i64 w0, wf_i64 w1⟩
end Go.Proofs.Ytobddmpiljknpaa

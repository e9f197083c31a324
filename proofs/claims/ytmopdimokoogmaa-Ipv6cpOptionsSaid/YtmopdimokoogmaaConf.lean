/-
  What an argument's reading gives of a configuration. No condition.
-/
import Derived.Test.YtmopdimokoogmaaArgs
namespace Go.Proofs.Ytmopdimokoogmaa
open Go.ChangeShapes Go.WideShapes Go.ChangeAt Go.RowKit
set_option linter.unusedVariables false
set_option linter.unusedSimpArgs false

theorem sz_u64 : Try.prog.cellsOf 23 = 1 := by kernel_rfl
theorem sz_conf : Try.prog.cellsOf 25 = 33 := by kernel_rfl
/-- A field of one cell that holds a whole number. -/
theorem ArgC.fieldInt {P : Program} {U : Nat} {W : World} {t ty : TypeId} {k : IntKind} {fs : Array Field} {cs : List Value} {j : Nat} (ht : P.underlying t = some (.struct fs)) (h : ArgC U P W t cs) {i : Nat} {f : Field} (hf : fs[i]? = some f) (hj : f.offset = j) (hty : f.type = ty)
    (hsz : P.cellsOf ty = 1) (hk : P.underlying ty = some (.int k)) : ∃ n, cs[j]? = some (.int k n) ∧ (Lit.int k n).wf = true := by
  have h1 := h.field ht hf
  rw [hj, hty, hsz] at h1
  obtain ⟨n, e, hw⟩ := h1.int hk
  refine ⟨n, ?_, hw⟩
  have h2 : ((cs.drop j).take 1)[0]? = some (.int k n) := by rw [e]; rfl
  rw [List.getElem?_take] at h2
  simpa using h2
theorem ArgC.fieldBool {P : Program} {U : Nat} {W : World} {t ty : TypeId} {fs : Array Field} {cs : List Value} {j : Nat} (ht : P.underlying t = some (.struct fs)) (h : ArgC U P W t cs) {i : Nat} {f : Field} (hf : fs[i]? = some f) (hj : f.offset = j) (hty : f.type = ty)
    (hsz : P.cellsOf ty = 1) (hk : P.underlying ty = some .bool) : ∃ b, cs[j]? = some (.bool b) := by
  have h1 := h.field ht hf
  rw [hj, hty, hsz] at h1
  obtain ⟨n, e⟩ := h1.bool hk
  refine ⟨n, ?_⟩
  have h2 : ((cs.drop j).take 1)[0]? = some (.bool n) := by rw [e]; rfl
  rw [List.getElem?_take] at h2
  simpa using h2
theorem info_conf : (Try.prog.info? 25).map (·.size) = some 33 := by kernel_rfl
theorem arg_conf {U : Nat} {W : World} {v : Value} (h : Arg U Try.prog W 25 v) : ∃ (cf : Array Value) (id maxf : Int), v = .agg cf ∧ (Try.prog.info? 25).map (·.size) = some cf.size ∧ cf[15]? = some (.int .u64 id) ∧ cf[21]? = some (.int .i64 maxf) ∧
    (0 ≤ id ∧ id < 18446744073709551616) ∧ -9223372036854775808 ≤ maxf ∧ maxf ≤ 9223372036854775807 := by
  obtain ⟨cs, rfl, h'⟩ := Arg.struct Try.underlying25 h
  obtain ⟨id, h1, w1⟩ := h'.fieldInt (i := 15) (j := 15) Try.underlying25 rfl rfl rfl sz_u64 Try.underlying23
  obtain ⟨mf, h2, w2⟩ := h'.fieldInt (i := 21) (j := 21) Try.underlying25 rfl rfl rfl sz_int Try.underlying3
  have hl := h'.len Try.underlying25
  rw [sz_conf] at hl
  exact ⟨cs.toArray, id, mf, rfl, (info_conf).trans (by rw [List.size_toArray, hl]), by simpa using h1, by simpa using h2, wf_u64 w1, wf_i64 w2⟩
end Go.Proofs.Ytmopdimokoogmaa

/-
  What an argument's reading gives of a configuration. No condition.
-/
import Derived.Test.YtnhmpmibkpoipaaArgs
namespace Go.Proofs.Ytnhmpmibkpoipaa
open Go.ChangeShapes Go.WideShapes Go.ChangeAt Go.RowKit
set_option linter.unusedVariables false
set_option linter.unusedSimpArgs false

theorem sz_conf : Try.prog.cellsOf 39 = 33 := by kernel_rfl
/-- A field of one cell that holds a whole number. -/
theorem ArgC.fieldInt {P : Program} {U : Nat} {W : World} {t ty : TypeId} {k : IntKind} {fs : Array Field} {cs : List Value} {j : Nat} (ht : P.underlying t = some (.struct fs)) (h : ArgC U P W t cs) {i : Nat} {f : Field} (hf : fs[i]? = some f) (hj : f.offset = j) (hty : f.type = ty)
    (hsz : P.cellsOf ty = 1) (hk : P.underlying ty = some (.int k)) : ∃ n, cs[j]? = some (.int k n) ∧ (Lit.int k n).wf = true := by
  have h1 := h.field ht hf
  rw [hj, hty, hsz] at h1
  obtain ⟨n, e, hw⟩ := h1.int hk
  refine ⟨n, ?_, hw⟩
  have h2 : ((cs.drop j).take 1)[0]? = some (.int k n) := by rw [e]; rfl
  rw [List.getElem?_take] at h2
  simpa using h2
theorem ArgC.fieldBool {P : Program} {U : Nat} {W : World} {t ty : TypeId} {fs : Array Field} {cs : List Value} {j : Nat} (ht : P.underlying t = some (.struct fs)) (h : ArgC U P W t cs) {i : Nat} {f : Field} (hf : fs[i]? = some f) (hj : f.offset = j) (hty : f.type = ty)
    (hsz : P.cellsOf ty = 1) (hk : P.underlying ty = some .bool) : ∃ b, cs[j]? = some (.bool b) := by
  have h1 := h.field ht hf
  rw [hj, hty, hsz] at h1
  obtain ⟨n, e⟩ := h1.bool hk
  refine ⟨n, ?_⟩
  have h2 : ((cs.drop j).take 1)[0]? = some (.bool n) := by rw [e]; rfl
  rw [List.getElem?_take] at h2
  simpa using h2
theorem info_conf : (Try.prog.info? 39).map (·.size) = some 33 := by kernel_rfl
theorem arg_conf22 {U : Nat} {W : World} {v : Value} (h : Arg U Try.prog W 39 v) : ∃ (cf : Array Value) (df bs maxf : Int), v = .agg cf ∧ (Try.prog.info? 39).map (·.size) = some cf.size ∧ cf[16]? = some (.int .i64 df) ∧ cf[17]? = some (.int .i64 bs) ∧ cf[21]? = some (.int .i64 maxf) ∧
    (-9223372036854775808 ≤ df ∧ df ≤ 9223372036854775807) ∧ (-9223372036854775808 ≤ bs ∧ bs ≤ 9223372036854775807) ∧ -9223372036854775808 ≤ maxf ∧ maxf ≤ 9223372036854775807 := by
  obtain ⟨cs, rfl, h'⟩ := Arg.struct Try.underlying39 h
  obtain ⟨df, h1, w1⟩ := h'.fieldInt (i := 16) (j := 16) Try.underlying39 rfl rfl rfl sz_int Try.underlying3
  obtain ⟨bs, h2, w2⟩ := h'.fieldInt (i := 17) (j := 17) Try.underlying39 rfl rfl rfl sz_int Try.underlying3
  obtain ⟨mf, h3, w3⟩ := h'.fieldInt (i := 21) (j := 21) Try.underlying39 rfl rfl rfl sz_int Try.underlying3
  have hl := h'.len Try.underlying39
  rw [sz_conf] at hl
  exact ⟨cs.toArray, df, bs, mf, rfl, (info_conf).trans (by rw [List.size_toArray, hl]), by simpa using h1, by simpa using h2, by simpa using h3, wf_i64 w1, wf_i64 w2, wf_i64 w3⟩
end Go.Proofs.Ytnhmpmibkpoipaa

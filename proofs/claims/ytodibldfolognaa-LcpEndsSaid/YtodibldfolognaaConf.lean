/-
  What an argument's reading gives of a configuration. No condition.
-/
import Derived.Test.YtodibldfolognaaArgs
namespace Go.Proofs.Ytodibldfolognaa
open Go.ChangeShapes Go.WideShapes Go.ChangeAt Go.RowKit
set_option linter.unusedVariables false
set_option linter.unusedSimpArgs false

theorem sz_conf : Try.prog.cellsOf 25 = 33 := by kernel_rfl
/-- A field of one cell that holds a whole number. -/
theorem ArgC.fieldInt {P : Program} {U : Nat} {W : World} {t ty : TypeId} {k : IntKind} {fs : Array Field} {cs : List Value} {j : Nat} (ht : P.underlying t = some (.struct fs)) (h : ArgC U P W t cs) {i : Nat} {f : Field} (hf : fs[i]? = some f) (hj : f.offset = j) (hty : f.type = ty)
    (hsz : P.cellsOf ty = 1) (hk : P.underlying ty = some (.int k)) : ∃ n, cs[j]? = some (.int k n) ∧ (Lit.int k n).wf = true := by
  have h1 := h.field ht hf
  rw [hj, hty, hsz] at h1
  obtain ⟨n, e, hw⟩ := h1.int hk
  refine ⟨n, ?_, hw⟩
  have h2 : ((cs.drop j).take 1)[0]? = some (.int k n) := by rw [e]; rfl
  rw [List.getElem?_take] at h2
  simpa using h2
theorem ArgC.fieldBool {P : Program} {U : Nat} {W : World} {t ty : TypeId} {fs : Array Field} {cs : List Value} {j : Nat} (ht : P.underlying t = some (.struct fs)) (h : ArgC U P W t cs) {i : Nat} {f : Field} (hf : fs[i]? = some f) (hj : f.offset = j) (hty : f.type = ty)
    (hsz : P.cellsOf ty = 1) (hk : P.underlying ty = some .bool) : ∃ b, cs[j]? = some (.bool b) := by
  have h1 := h.field ht hf
  rw [hj, hty, hsz] at h1
  obtain ⟨n, e⟩ := h1.bool hk
  refine ⟨n, ?_⟩
  have h2 : ((cs.drop j).take 1)[0]? = some (.bool n) := by rw [e]; rfl
  rw [List.getElem?_take] at h2
  simpa using h2
theorem info_conf : (Try.prog.info? 25).map (·.size) = some 33 := by kernel_rfl
end Go.Proofs.Ytodibldfolognaa

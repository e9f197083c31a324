/-
  lcp: what an argument's reading gives of a configuration. No condition.
-/
import Derived.Test.YtodibldfolognaaLcO
import Derived.Test.YtodibldfolognaaLcK
namespace Go.Proofs.Ytodibldfolognaa
open Go.ChangeShapes Go.WideShapes Go.ChangeAt Go.RowKit
set_option linter.unusedVariables false
set_option linter.unusedSimpArgs false

/-- What a configuration holds for this layer. -/
structure CConf (W : World) (cf : Array Value) (acc : List Int) (pf af mg : Bool) (AA : Option Addr) (ac : Nat) (req mru accm maxf : Int) : Prop where
  size : (Try.prog.info? 25).map (·.size) = some cf.size
  conf : LConf cf ⟨acc.length, pf, af, mg⟩ AA ac
  hreq : cf[2]? = some (.int .i64 req)
  hmru : cf[4]? = some (.int .i64 mru)
  haccm : cf[5]? = some (.int .i64 accm)
  hmaxf : cf[21]? = some (.int .i64 maxf)
  len : acc.length ≤ 9223372036854775807
  cells : Cells W AA (Proofs.Ytodibldfolognaa.nums .i64 acc)
  breq : -9223372036854775808 ≤ req ∧ req ≤ 9223372036854775807
  bmru : -9223372036854775808 ≤ mru ∧ mru ≤ 9223372036854775807
  baccm : -9223372036854775808 ≤ accm ∧ accm ≤ 9223372036854775807
set_option maxRecDepth 100000 in
theorem arg_conf11 {U : Nat} {W : World} {v : Value} (h : Arg U Try.prog W 25 v) : ∃ cf acc pf af mg AA ac req mru accm maxf, v = .agg cf ∧ CConf W cf acc pf af mg AA ac req mru accm maxf := by
  obtain ⟨cs, rfl, h'⟩ := Arg.struct Try.underlying25 h
  have hl := h'.len Try.underlying25
  rw [sz_conf] at hl
  obtain ⟨rq, e2, w2⟩ := h'.fieldInt (i := 2) (j := 2) Try.underlying25 rfl rfl rfl sz_int Try.underlying3
  obtain ⟨mr, e4, w4⟩ := h'.fieldInt (i := 4) (j := 4) Try.underlying25 rfl rfl rfl sz_int Try.underlying3
  obtain ⟨am, e5, w5⟩ := h'.fieldInt (i := 5) (j := 5) Try.underlying25 rfl rfl rfl (by kernel_rfl) Try.underlying2
  obtain ⟨pf, e6⟩ := h'.fieldBool (i := 6) (j := 6) Try.underlying25 rfl rfl rfl (by kernel_rfl) Try.underlying4
  obtain ⟨af, e7⟩ := h'.fieldBool (i := 7) (j := 7) Try.underlying25 rfl rfl rfl (by kernel_rfl) Try.underlying4
  obtain ⟨mg, e8⟩ := h'.fieldBool (i := 8) (j := 8) Try.underlying25 rfl rfl rfl (by kernel_rfl) Try.underlying4
  obtain ⟨mf, e21, w21⟩ := h'.fieldInt (i := 21) (j := 21) Try.underlying25 rfl rfl rfl sz_int Try.underlying3
  have h3 : ArgC U Try.prog W 22 ((cs.drop 3).take (Try.prog.cellsOf 22)) := h'.field Try.underlying25 (i := 3) rfl
  rw [show Try.prog.cellsOf 22 = 1 from by kernel_rfl] at h3
  obtain ⟨A, n, c, xs, e3, hxl, hnc, hc, _, _, hC, hw⟩ := h3.nums Try.underlying22 Try.underlying3 sz_int
  have e3' : cs[3]? = some (.slice A n c) := by
    have h2 : ((cs.drop 3).take 1)[0]? = some (.slice A n c) := by rw [e3]; rfl
    rw [List.getElem?_take] at h2
    simpa using h2
  subst hxl
  exact ⟨cs.toArray, xs, pf, af, mg, A, c, rq, mr, am, mf, rfl, (info_conf).trans (by rw [List.size_toArray, hl]), ⟨by simpa using e3', by simpa using e6, by simpa using e7, by simpa using e8⟩, by simpa using e2, by simpa using e4, by simpa using e5, by simpa using e21, by omega, hC, wf_i64 w2, wf_i64 w4, wf_i64 w5⟩
end Go.Proofs.Ytodibldfolognaa

/-
  Steps of a region that draws its order, taken one by one: whole structs, single cells, calls by contract; guarded operations. No condition: nothing here speaks of one program.
-/
import Derived.Test.YtnhmpmibkpoipaaExt
import Derived.Deep.RegionHeld3
namespace Go.Proofs.Ytnhmpmibkpoipaa
open Go.RowKit

/-- A whole struct that is loaded, in every world that meets S. -/
theorem yields_row_S {P : Program} {ops : Array Oper} {S : World → Prop} {o : Oper} {a : Act} (hgd : Region.wanted o (yielded ops a.tmps) = true) (ty : TypeId) (x : Operand) (ho : o.op = .load ty x)
    (g : Nat) (hx : a.eval x = .pointer (some ⟨g, 0, none⟩)) (t : TypeId) (cs : Array Value) (fr : Nat × Nat) (d : TypeDesc)
    (hu : P.underlying ty = some d) (hd : (match d with | .struct _ | .array _ _ => true | _ => false) = true) (hi : (P.info? ty).map (·.size) = some cs.size)
    (hS : ∀ W, S W → W.heap[g]? = some (.cells cs t fr)) :
    YieldsIf P ops S o (.agg cs) a := by
  refine .inl ⟨hgd, fun w hw => ?_⟩
  have hg := hS w hw
  unfold execOp
  simp only [ho, hx, Instr.loadAt, Instr.sureAddr, Sem.run_bind, Sem.run_pure, Result.andThen_ok, run_loadVar_row w g t ty cs fr d hg hu hd hi]
/-- A call of a function that is met by its contract, as one step of a region that draws its order: at an operation that is guarded, whose guard bids it. -/
theorem step_call_w {P : Program} {ops : Array Oper} {o : Oper} {a : Act} {W : World} {K : Act → World → Prop} {Q : Exit → Act → World → Prop} {F : Prop} (hw : Region.wanted o (yielded ops a.tmps) = true) {f : FuncId} {fn : Func} (hf : P.funcs[f]? = some fn) (hfn : (fn.name == "runtime.NumGoroutine") = false) (hfb : fn.body.isNone = false) (xs : Array Operand) (ts : Array TypeId)
    (ho : o.op = .call { callee := .value (.func f), args := xs, argTypes := ts }) (vs : Array Value) (hvs : xs.map a.eval = vs) {R : Ending → World → Prop} (hc : Calls P f vs W R) (h : ∀ e w', R e w' → ∃ v, e = .returned v ∧ K (a.put o.dst v) w') :
    if Region.wanted o (yielded ops a.tmps) = true then Oper.wp P o a W K Q else F := by
  rw [if_pos hw]
  have hrun : (execOp a.eval o).run P W = .ok (.enter f vs) W := by
    unfold execOp
    simp only [ho]
    have h1 : ¬ fn.name = "runtime.NumGoroutine" := by simpa using hfn
    have h2 : ¬ fn.body = none := by intro he; rw [he] at hfb; cases hfb
    simp [resolve, invoke, hvs, Deferred.ofValue, callFunc, Act.eval, hf, h1, h2]
  unfold Oper.wp
  rw [hrun, Oper.upon_enter]
  refine hc.mono ?_
  intro e w' hR
  obtain ⟨v, rfl, hk⟩ := h e w' hR
  exact hk
end Go.Proofs.Ytnhmpmibkpoipaa

/-
  Steps of a region that draws its order, taken one by one: whole structs, single cells, calls by contract; guarded operations. No condition: nothing here speaks of one program.
-/
import Derived.Test.YtobddmpiljknpaaExt
import Derived.Deep.RegionHeld3
import Derived.Laws.Tables
namespace Go.Proofs.Ytobddmpiljknpaa
open Go.RowKit

/-- A whole struct that is loaded, in every world that meets S. -/
theorem yields_row_S {P : Program} {ops : Array Oper} {S : World → Prop} {o : Oper} {a : Act} (hgd : Region.wanted o (yielded ops a.tmps) = true) (ty : TypeId) (x : Operand) (ho : o.op = .load ty x)
    (g : Nat) (hx : a.eval x = .pointer (some ⟨g, 0, none⟩)) (t : TypeId) (cs : Array Value) (fr : Nat × Nat) (d : TypeDesc)
    (hu : P.underlying ty = some d) (hd : (match d with | .struct _ | .array _ _ => true | _ => false) = true) (hi : (P.info? ty).map (·.size) = some cs.size)
    (hS : ∀ W, S W → W.heap[g]? = some (.cells cs t fr)) :
    YieldsIf P ops S o (.agg cs) a := by
  refine .inl ⟨hgd, fun w hw => ?_⟩
  have hg := hS w hw
  unfold execOp
  simp only [ho, hx, Instr.loadAt, Instr.sureAddr, Sem.run_bind, Sem.run_pure, Result.andThen_ok, run_loadVar_row w g t ty cs fr d hg hu hd hi]
/-- A call of a function that is met by its contract, as one step of a region that draws its order: at an operation that is guarded, whose guard bids it. -/
theorem step_call_w {P : Program} {ops : Array Oper} {o : Oper} {a : Act} {W : World} {K : Act → World → Prop} {Q : Exit → Act → World → Prop} {F : Prop} (hw : Region.wanted o (yielded ops a.tmps) = true) {f : FuncId} {fn : Func} (hf : P.funcs[f]? = some fn) (hfn : (fn.name == "runtime.NumGoroutine") = false) (hfb : fn.body.isNone = false) (xs : Array Operand) (ts : Array TypeId)
    (ho : o.op = .call { callee := .value (.func f), args := xs, argTypes := ts }) (vs : Array Value) (hvs : xs.map a.eval = vs) {R : Ending → World → Prop} (hc : Calls P f vs W R) (h : ∀ e w', R e w' → ∃ v, e = .returned v ∧ K (a.put o.dst v) w') :
    if Region.wanted o (yielded ops a.tmps) = true then Oper.wp P o a W K Q else F := by
  rw [if_pos hw]
  have hrun : (execOp a.eval o).run P W = .ok (.enter f vs) W := by
    unfold execOp
    simp only [ho]
    have h1 : ¬ fn.name = "runtime.NumGoroutine" := by simpa using hfn
    have h2 : ¬ fn.body = none := by intro he; rw [he] at hfb; cases hfb
    simp [resolve, invoke, hvs, Deferred.ofValue, callFunc, Act.eval, hf, h1, h2]
  unfold Oper.wp
  rw [hrun, Oper.upon_enter]
  refine hc.mono ?_
  intro e w' hR
  obtain ⟨v, rfl, hk⟩ := h e w' hR
  exact hk
/-- A whole array or struct that is stored: the world behind it is opaque. -/
theorem wpList_store_row_o {P : Program} {ops : Array Oper} {rest : List Oper} {o : Oper} {a : Act} {w : World} {Q : Exit → Act → World → Prop} (hgd : o.guard = none) (ty : TypeId) (x y : Operand) (ho : o.op = .store ty x y)
    (g : Nat) (cells : Array Value) (hx : a.eval x = .pointer (some ⟨g, 0, none⟩)) (hy : a.eval y = .agg cells)
    (t : TypeId) (old : Array Value) (hg : w.heap[g]? = some (.cells old t (0, 0))) (hi : (P.info? ty).map (·.size) = some cells.size)
    (hold : old.size = cells.size) (h1 : cells.all (·.oneCell') = true)
    (h : ∀ w', w'.heap[g]? = some (.cells cells t (0, 0)) → (∀ k, k ≠ g → w'.heap[k]? = w.heap[k]?) → w'.heap.size = w.heap.size → (∀ B w0, Below B w0 w → B ≤ g → Below B w0 w') → wpList P ops Q rest (a.put o.dst undef) w') : wpList P ops Q (o :: rest) a w :=
  wpList_store_row hgd ty x y ho g cells hx hy t old hg hi hold h1 (h _ (setRow_heap _ _ _ _ _ _ hg) (fun k hk => setRow_other _ _ _ _ hk) (by simp) fun B w0 hb hB => below_setRow hb hB _)
theorem at_new_then {w : World} (o1 o2 : Obj) : ((w.alloc o1).alloc o2).heap[w.heap.size]? = some o1 := by
  exact at_below (at_new w o1) ((Below.refl _ _).alloc (Nat.le_refl _) o2)
theorem Ext.setg {w w' : World} (h : Ext w w') (g i : Nat) (u : Value) (hg : w.heap.size ≤ g) : Ext w (w'.setCell ⟨g, i, none⟩ u) := ⟨h.out.setCell (p := ⟨g, i, none⟩) hg u⟩
end Go.Proofs.Ytobddmpiljknpaa

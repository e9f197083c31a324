/-
  MORE WORDS FOR MEMORY, over any program: a block that is known whole. No condition.
-/
import Derived.Test.YtobddmpiljknpaaBase
namespace Go.Proofs.Ytobddmpiljknpaa
open Go.RowKit

section
variable {w w1 : World} {g : Nat} {t : TypeId} {cs : Array Value}
theorem at_cell (h : w.heap[g]? = some (.cells cs t (0, 0))) (i : Nat) : w.cell? ⟨g, i, none⟩ = cs[i]? := cell_of_row w g i cs t (0, 0) h
theorem at_frozen (h : w.heap[g]? = some (.cells cs t (0, 0))) (i : Nat) : w.frozen? ⟨g, i, none⟩ = false := by simp [World.frozen?, h]
theorem at_set (h : w.heap[g]? = some (.cells cs t (0, 0))) (i : Nat) (u : Value) : (w.setCell ⟨g, i, none⟩ u).heap[g]? = some (.cells (cs.setIfInBounds i u) t (0, 0)) := by
  simp [World.setCell, Array.getElem?_modify, h]
theorem at_other {k : Nat} {p : Addr} (u : Value) {o : Obj} (h : w.heap[k]? = some o) (hne : k ≠ p.block) : (w.setCell p u).heap[k]? = some o := by
  rw [Below.heap_setCell _ _ _ _ hne]
  exact h
theorem at_lt {o : Obj} (h : w.heap[g]? = some o) : g < w.heap.size := (Array.getElem?_eq_some_iff.1 h).1
theorem at_below {o : Obj} (h : w.heap[g]? = some o) (hb : Below w.heap.size w w1) : w1.heap[g]? = some o := (hb.block g (at_lt h)).trans h
theorem at_drewN {o : Obj} (h : w.heap[g]? = some o) (n : Nat) : (w.drewN n).heap[g]? = some o := h
theorem at_new (w : World) (o : Obj) : (w.alloc o).heap[w.heap.size]? = some o := heap_alloc_new w o
theorem below_set3 {B : Nat} {b : Nat} (h : Below B w w1) (hb : B ≤ b) (i j k : Nat) (x y z : Value) : Below B w (((w1.setCell ⟨b, i, none⟩ x).setCell ⟨b, j, none⟩ y).setCell ⟨b, k, none⟩ z) :=
  ((h.setCell (p := ⟨b, i, none⟩) hb x).setCell (p := ⟨b, j, none⟩) hb y).setCell (p := ⟨b, k, none⟩) hb z
theorem below_set2 {B : Nat} {b : Nat} (h : Below B w w1) (hb : B ≤ b) (i j : Nat) (x y : Value) : Below B w ((w1.setCell ⟨b, i, none⟩ x).setCell ⟨b, j, none⟩ y) :=
  (h.setCell (p := ⟨b, i, none⟩) hb x).setCell (p := ⟨b, j, none⟩) hb y
theorem below_set1 {B : Nat} {b : Nat} (h : Below B w w1) (hb : B ≤ b) (i : Nat) (x : Value) : Below B w (w1.setCell ⟨b, i, none⟩ x) := h.setCell (p := ⟨b, i, none⟩) hb x
/-- A row of the call's own lies in blocks that are older than a further one. -/
theorem own_setCell {base n size : Nat} {e : TypeId} {v : Value} {ds : List Value} (h : w.ownsRow base e size v n ds) {p : Addr} (hp : v.ownBlock ≠ some p.block) (u : Value) : (w.setCell p u).ownsRow base e size v n ds :=
  h.kept (grown_setCell (row := some p.block) (grown_refl w _) (.inr rfl) u) (.inr hp)
end

/-- 'append(v, xs...)' as one step of a region that draws its order. -/
theorem step_append {P : Program} {ops : Array Oper} {o : Oper} {a : Act} {W : World} {K : Act → World → Prop} {Q : Exit → Act → World → Prop} {F : Prop} (base : Nat) (hgd : o.guard = none) (s x : Operand) (t e : TypeId) (z : Value) (size bytes : Nat)
    (ho : o.op = .call { callee := .builtin .append, args := #[s, x], argTypes := #[t, t] })
    (ht : P.underlying t = some (.slice e)) (hinfo : (P.info? e).map (fun i => (i.zero, i.size, i.bytes)) = some (some z, size, bytes)) (hz : z.cells.size = size) (hs0 : 0 < size) (hb0 : 0 < bytes)
    (v : Value) (n : Nat) (cs : List Value) (A : Option Addr) (m c : Nat) (ds : List Value) (hs : a.eval s = v) (hx : a.eval x = .slice A m c) (hl : ds.length = m * size) (h1 : ∀ u ∈ ds, u.oneCell' = true)
    (HO : W.ownsRow base e size v n cs) (HC : Cells W A ds) (hbase : base ≤ W.heap.size) (hk : (n + m) * bytes ≤ 140737488355328)
    (h : ∀ v1 w1, w1.ownsRow base e size v1 (n + m) (cs ++ ds) → W.grownBy w1 v.ownBlock → (v1.ownBlock = v.ownBlock ∨ v1.ownBlock = some W.heap.size) → K (a.put o.dst v1) w1) :
    if Region.wanted o (yielded ops a.tmps) = true then Oper.wp P o a W K Q else F := by
  have hw : Region.wanted o (yielded ops a.tmps) = true := by simp [Region.wanted, hgd]
  rw [if_pos hw]
  obtain ⟨v1, w1, hrun, h2, h3, h4⟩ := run_append_cells (P := P) W base t o.type e z size bytes ht hinfo hz hs0 hb0 v n cs A m c ds hl h1 HO HC hbase hk
  unfold Oper.wp execOp
  simp only [ho, resolve, invoke, builtin, Sem.run_bind, Sem.run_pure, Result.andThen_ok, List.map_toArray, List.map_cons, List.map_nil, hs, hx, hrun]
  exact h _ _ h2 h3 h4
/-- A call of a function that is met by its contract, as one step of a region that draws its order. -/
theorem step_call {P : Program} {ops : Array Oper} {o : Oper} {a : Act} {W : World} {K : Act → World → Prop} {Q : Exit → Act → World → Prop} {F : Prop} (hgd : o.guard = none) {f : FuncId} {fn : Func} (hf : P.funcs[f]? = some fn) (hfn : (fn.name == "runtime.NumGoroutine") = false) (hfb : fn.body.isNone = false) (xs : Array Operand) (ts : Array TypeId)
    (ho : o.op = .call { callee := .value (.func f), args := xs, argTypes := ts }) (vs : Array Value) (hvs : xs.map a.eval = vs) {R : Ending → World → Prop} (hc : Calls P f vs W R) (h : ∀ e w', R e w' → ∃ v, e = .returned v ∧ K (a.put o.dst v) w') :
    if Region.wanted o (yielded ops a.tmps) = true then Oper.wp P o a W K Q else F := by
  have hw : Region.wanted o (yielded ops a.tmps) = true := by simp [Region.wanted, hgd]
  rw [if_pos hw]
  have hrun : (execOp a.eval o).run P W = .ok (.enter f vs) W := by
    unfold execOp
    simp only [ho]
    have h1 : ¬ fn.name = "runtime.NumGoroutine" := by simpa using hfn
    have h2 : ¬ fn.body = none := by intro he; rw [he] at hfb; cases hfb
    simp [resolve, invoke, hvs, Deferred.ofValue, callFunc, Act.eval, hf, h1, h2]
  unfold Oper.wp
  rw [hrun, Oper.upon_enter]
  refine hc.mono ?_
  intro e w' hR
  obtain ⟨v, rfl, hk⟩ := h e w' hR
  exact hk
theorem grown_undrew {w w2 : World} {row : Option Nat} (h : w.drew.grownBy w2 row) : w.grownBy w2 row := ⟨h.os, h.tape, h.output, h.size, h.block⟩
theorem below_of_grown {B : Nat} {w w1 : World} {row : Option Nat} (h : w.grownBy w1 row) (hB : B ≤ w.heap.size) (hr : ∀ k, row = some k → B ≤ k) : Below B w w1 := (Below.refl B w).grown h hB hr
/-- 'append(v, x)' where the size of the world is spelled in another way. -/
theorem wp_append_box2 {P : Program} {ops : Array Oper} {rest : List Oper} {o : Oper} {a : Act} {Q : Exit → Act → World → Prop} {w0 W : World} (g : Nat) (hg : W.heap.size = g) (base : Nat) (hgd : o.guard = none) (s x : Operand) (t e : TypeId) (z : Value) (size bytes m : Nat)
    (ho : o.op = .call { callee := .builtin .append, args := #[s, x], argTypes := #[t, t] })
    (ht : P.underlying t = some (.slice e)) (hinfo : (P.info? e).map (fun i => (i.zero, i.size, i.bytes)) = some (some z, size, bytes)) (hz : z.cells.size = size) (hs0 : 0 < size) (hb0 : 0 < bytes)
    (v : Value) (n : Nat) (cs : List Value) (ds : List Value) (hs : a.eval s = v) (hx : a.eval x = .slice (some ⟨g, 0, none⟩) m m) (hl : ds.length = m * size) (h1 : ∀ u ∈ ds, u.oneCell' = true)
    (HO : W.ownsRow base e size v n cs) (HB : Below base w0 W) (hbase : base ≤ W.heap.size) (hk : (n + m) * bytes ≤ 140737488355328)
    (h : ∀ v1 w1, w1.ownsRow base e size v1 (n + m) (cs ++ ds) → Below base w0 w1 → W.grownBy w1 v.ownBlock → (v1.ownBlock = v.ownBlock ∨ ∃ b, v1.ownBlock = some b ∧ W.heap.size ≤ b) → wpList P ops Q rest (a.put o.dst v1) w1) :
    wpList P ops Q (o :: rest) a (W.alloc (.cells ds.toArray e)) := by
  subst hg
  exact wp_append_box base hgd s x t e z size bytes m ho ht hinfo hz hs0 hb0 v n cs ds hs hx hl h1 HO HB hbase hk h
end Go.Proofs.Ytobddmpiljknpaa

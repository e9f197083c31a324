/-
  What pap's texts need beyond the base: rows as results, stores of whole structs, a world but for one block. No condition: nothing here speaks of one function.
-/
import Derived.Test.YtobddmpiljknpaaBytes
import Derived.Test.YtobddmpiljknpaaExt
import Derived.Test.YtobddmpiljknpaaRow2
import Derived.Test.YtobddmpiljknpaaCopy
import Derived.Test.YtobddmpiljknpaaReg
import Derived.Test.YtobddmpiljknpaaOpt
import Derived.Test.YtobddmpiljknpaaMdP
import Derived.Deep.WholeRow
import Derived.Recover
namespace Go.Proofs.Ytobddmpiljknpaa
open Go.RowKit
set_option linter.unusedVariables false
set_option linter.unusedSimpArgs false

theorem own_setRow {W : World} {base n size g : Nat} {e : TypeId} {v : Value} {cs : List Value} (h : W.ownsRow base e size v n cs) (hne : v.ownBlock ≠ some g) (row : Array Value) : (W.setRow g row).ownsRow base e size v n cs :=
  h.kept (row := some g) ⟨rfl, rfl, rfl, by simp [World.setRow], fun k _ hk => setRow_other _ _ _ _ (fun e => hk (by rw [e]))⟩ (.inr hne)
def ReplyTells (r : (Int × Int) × List Int × Int) (w : World) (e : Ending) (w' : World) : Prop :=
  ∃ A c, e = .returned (.tuple #[.agg #[.int .i64 r.1.1, .int .i64 r.1.2, .slice A r.2.1.length c], .int .i64 r.2.2]) ∧ w'.ownsRow w.heap.size 5 1 (.slice A r.2.1.length c) r.2.1.length (nums .u8 r.2.1) ∧ Below w.heap.size w w'
abbrev zPk : Obj := .cells #[.int .i64 0, .int .i64 0, .slice none 0 0] 24
theorem results_cell_row3 {P : Program} {fn : Func} {p q r : Tmp} {ty : TypeId} (h : fn.results = #[.cell p ty, .tmp q, .tmp r]) (tmps : Array Value) (w : World) (g : Nat) (t : TypeId) (cs : Array Value) (fr : Nat × Nat) (d : TypeDesc) (v u : Value)
    (hp : tmps.getD p undef = .pointer (some ⟨g, 0, none⟩)) (hq : tmps.getD q undef = v) (hr : tmps.getD r undef = u) (hg : w.heap[g]? = some (.cells cs t fr))
    (hu : P.underlying ty = some d) (hd : (match d with | .struct _ | .array _ _ => true | _ => false) = true) (hi : (P.info? ty).map (·.size) = some cs.size) :
    (results fn tmps).run P w = .ok (.tuple #[.agg cs, v, u]) w := by
  have hp' : tmps[p]?.getD undef = .pointer (some ⟨g, 0, none⟩) := by simpa using hp
  have hq' : tmps[q]?.getD undef = v := by simpa using hq
  have hr' : tmps[r]?.getD undef = u := by simpa using hr
  simp [results, h, hp', hq', hr', asAddr, run_loadVar_row w g t ty cs fr d hg hu hd hi]
structure But (w w' : World) (B : Nat) : Prop where
  os : w'.os = w.os
  tape : w'.tape = w.tape
  output : w'.output = w.output
  size : w.heap.size ≤ w'.heap.size
  block : ∀ k, k < w.heap.size → k ≠ B → w'.heap[k]? = w.heap[k]?
section
variable {w0 w w1 w2 : World} {B g : Nat} {o : Obj}
theorem But.of [h : Ext w w1] : But w w1 B := ⟨h.out.os, h.out.tape, h.out.output, h.out.size, fun k hk _ => h.out.block k hk⟩
theorem But.set (h : But w w1 B) (j : Nat) (v : Value) : But w (w1.setCell ⟨B, j, none⟩ v) B :=
  ⟨h.os, h.tape, h.output, by have := h.size; simp [World.setCell]; omega, fun k hk hB => (Below.heap_setCell _ _ _ _ hB).trans (h.block k hk hB)⟩
theorem But.at (h : But w w1 B) (hg : g ≠ B) (k : w.heap[g]? = some o) : w1.heap[g]? = some o := (h.block g (at_lt k) hg).trans k
theorem But.ext (h : But w1 w2 B) (e : Ext w w1) (hB : w.heap.size ≤ B) : Ext w w2 :=
  ⟨e.out.trans ⟨h.os, h.tape, h.output, h.size, fun k hk => h.block k (Nat.lt_of_lt_of_le hk e.out.size) (by omega)⟩⟩
end
theorem run_loadVar_int {P : Program} {w : World} {a : Addr} {v : Value} {ty : TypeId} {k : IntKind} (hu : P.underlying ty = some (.int k)) (hc : w.cell? a = some v) : (loadVar ty a).run P w = .ok v w := by
  simp [loadVar, isAgg, Go.underlying, go_sem, hu, hc]
def pkSame (c1 i1 : Int) (xs : List Int) (c2 i2 : Int) (ys : List Int) : Bool := decide (c1 = c2 ∧ i1 = i2 ∧ xs = ys)
theorem pkSame_self (a b : Int) (xs : List Int) : pkSame a b xs a b xs = true := by simp [pkSame]
theorem take_snoc {α : Type} {xs : List α} {k : Nat} {x : α} (h : xs[k]? = some x) : xs.take (k + 1) = xs.take k ++ [x] := by rw [List.take_add_one, h]; rfl
end Go.Proofs.Ytobddmpiljknpaa

/-
  pap's deferred calls: told, and what empties the results. No condition.
-/
import Derived.Test.YtodibldfolognaaPpC
namespace Go.Proofs.Ytodibldfolognaa
open Go.RowKit
set_option linter.unusedVariables false
set_option linter.unusedSimpArgs false

set_option maxRecDepth 100000 in
theorem told_panicking (e0 : Int) (E : Nat) (w : World) (hE : w.heap[E]? = some (.cells #[.int .i64 e0] 35 (0, 0))) :
    CallsD Try.prog 110 #[.pointer (some ⟨E, 0, none⟩)] (.panicking sP) w fun e u' w' => e = .returned (.tuple #[]) ∧ u' = .panicking [{ v := .iface 168 (.agg #[.int .i64 8]), recovered := true }] ∧
      w'.heap[E]? = some (.cells #[.int .i64 8] 35 (0, 0)) ∧ But w w' E := by
  have hta : ∀ w : World, (Instr.typeAssert (.iface 168 (.agg #[.int .i64 8])) 20 168 true).run Try.prog w = .ok (.tuple #[.agg #[.int .i64 8], .bool true]) w := fun _ => by kernel_rfl
  refine callsD_of_wpS Try.func110 rfl fun c₀ cs hu => ?_
  apply wpS_seq
  apply wpS_region
  simp [wpOpsS, go_sem, recoverD, hu, Try.ntmps110, Exit.thenS]
  refine wpS_of_wp ?_
  simp only [show Array.replicate 19 undef = #[undef, undef, undef, undef, undef, undef, undef, undef, undef, undef, undef, undef, undef, undef, undef, undef, undef, undef, undef] from rfl, List.setIfInBounds_toArray, List.set_cons_zero, List.set_cons_succ, List.append_toArray, List.cons_append, List.nil_append]
  have hnq : ∀ w : World, (binOp .neq 20 (.iface 168 (.agg #[.int .i64 8])) .nilIface).run Try.prog w = .ok (.bool true) w := fun _ => by kernel_rfl
  have f2 : ∀ b, (w.alloc b).frozen? ⟨E, 0, none⟩ = false := fun b => at_frozen (at_ext (w' := w.alloc b) hE) 0
  have q2 : ∀ b, (w.alloc b).cell? ⟨E, 0, none⟩ = some (.int .i64 e0) := fun b => at_cell (at_ext (w' := w.alloc b) hE) 0
  go_wp2
  exact ⟨rfl, _, rfl, .tuple #[], by simp [results, Try.results110], rfl, rfl, at_set (at_ext hE) 0 _, (But.of (w1 := w.alloc _)).set 0 _⟩
set_option maxRecDepth 100000 in
theorem told_idle (E : Nat) (w : World) :
    CallsD Try.prog 110 #[.pointer (some ⟨E, 0, none⟩)] .returning w fun e u' w' => e = .returned (.tuple #[]) ∧ u' = .returning ∧ Below w.heap.size w w' := by
  refine callsD_of_wpS Try.func110 rfl fun c₀ cs hu => ?_
  apply wpS_seq
  apply wpS_region
  simp [wpOpsS, go_sem, recoverD, hu, Try.ntmps110, Exit.thenS]
  refine wpS_of_wp ?_
  simp only [show Array.replicate 19 undef = #[undef, undef, undef, undef, undef, undef, undef, undef, undef, undef, undef, undef, undef, undef, undef, undef, undef, undef, undef] from rfl, List.setIfInBounds_toArray, List.set_cons_zero, List.set_cons_succ, List.append_toArray, List.cons_append, List.nil_append]
  have hnq : ∀ w : World, (binOp .neq 20 .nilIface .nilIface).run Try.prog w = .ok (.bool false) w := fun _ => by kernel_rfl
  go_wp2
  obtain ⟨k0, k1, k2, k3, k4, k5, k6⟩ := c₀
  simp only at hu
  subst hu
  exact ⟨rfl, .returning, rfl, .tuple #[], by simp [results, Try.results110], rfl, rfl, Below.refl _ _⟩
/-- Three cells of a call's own: why, name, word. -/
structure C3 (w : World) (E N M : Nat) (e : Int) (a b : ByteArray) : Prop where
  e : w.heap[E]? = some (.cells #[.int .i64 e] 35 (0, 0))
  a : w.heap[N]? = some (.cells #[.string a] 9 (0, 0))
  b : w.heap[M]? = some (.cells #[.string b] 9 (0, 0))
theorem C3.ext {w w' : World} [h : Ext w w'] {E N M : Nat} {e : Int} {a b : ByteArray} (k : C3 w E N M e a b) : C3 w' E N M e a b := ⟨at_ext k.e, at_ext k.a, at_ext k.b⟩
set_option maxRecDepth 100000 in
theorem empty_any (u : FrameMode) (E N M : Nat) (e : Int) (a b : ByteArray) (w : World) (hNM : N ≠ M) (h : C3 w E N M e a b) (hEN : E ≠ N) (hEM : E ≠ M) :
    CallsD Try.prog 109 #[.pointer (some ⟨E, 0, none⟩), .pointer (some ⟨N, 0, none⟩), .pointer (some ⟨M, 0, none⟩)] u w fun r u' w' => u' = u ∧ (r = .returned (.tuple #[]) ∧ C3 w' E N M e (if e = 0 then a else ⟨#[]⟩) (if e = 0 then b else ⟨#[]⟩) ∧ ∀ B w0, Below B w0 w → B ≤ N → B ≤ M → Below B w0 w') := by
  have HC := Lib.hid h
  have q0 : w.cell? ⟨E, 0, none⟩ = some (.int .i64 e) := at_cell h.e 0
  have q1 : w.cell? ⟨N, 0, none⟩ = some (.string a) := at_cell h.a 0
  have f1 : w.frozen? ⟨N, 0, none⟩ = false := at_frozen h.a 0
  have hb2 : w.heap[M]? = some (.cells #[.string b] 9 (0, 0)) := h.b
  have hb3 : (w.setCell ⟨N, 0, none⟩ (.string ⟨#[]⟩)).heap[M]? = some (.cells #[.string b] 9 (0, 0)) := (Below.heap_setCell _ _ _ _ hNM.symm).trans hb2
  have q2 : (w.setCell ⟨N, 0, none⟩ (.string ⟨#[]⟩)).cell? ⟨M, 0, none⟩ = some (.string b) := at_cell hb3 0
  have f2 : (w.setCell ⟨N, 0, none⟩ (.string ⟨#[]⟩)).frozen? ⟨M, 0, none⟩ = false := at_frozen hb3 0
  have HB3 := Lib.hid hb3
  clear h hb2 hb3
  by_cases he : e = 0
  · subst he
    go_enter_d Try.func109, Try.ntmps109
    go_wp2
    go_end0
    exact ⟨rfl, HC.out, fun B w0 hb _ _ => hb⟩
  · have he' : (e != 0) = true := by simpa using he
    have HN0 := Lib.hid he
    clear he
    go_enter_d Try.func109, Try.ntmps109
    go_wp2
    go_end0
    refine ⟨rfl, ?_, fun B w0 hb h1 h2 => (hb.setCell (p := ⟨N, 0, none⟩) h1 _).setCell (p := ⟨M, 0, none⟩) h2 _⟩
    refine ⟨?_, ?_, at_set HB3.out 0 _⟩
    · exact (Below.heap_setCell _ _ _ _ hEM).trans ((Below.heap_setCell _ _ _ _ hEN).trans HC.out.e)
    · exact (Below.heap_setCell _ _ _ _ hNM).trans (at_set HC.out.a 0 _)
end Go.Proofs.Ytodibldfolognaa

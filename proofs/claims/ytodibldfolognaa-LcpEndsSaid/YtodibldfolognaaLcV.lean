/-
  lcp.Read's deferred closure: what recovers a panic of 'fault'. No condition.
-/
import Derived.Test.YtodibldfolognaaLcU
import Derived.Recover
namespace Go.Proofs.Ytodibldfolognaa
open Go.RowKit
set_option linter.unusedVariables false
set_option linter.unusedSimpArgs false

set_option maxRecDepth 100000 in
theorem rec_panicking (o : OS) (e0 : Int) (B E : Nat) (hBE : B < E) (w : World) (hB : w.heap[B]? = some (oL o)) (hE : w.heap[E]? = some (.cells #[.int .i64 e0] 35 (0, 0))) :
    CallsD Try.prog 94 #[.pointer (some ⟨B, 0, none⟩), .pointer (some ⟨E, 0, none⟩)] (.panicking fP) w fun e u' w' => e = .returned (.tuple #[]) ∧ u' = .panicking [{ v := .iface 132 (.agg #[]), recovered := true }] ∧
      w'.heap[B]? = some (oL OS.zero) ∧ w'.heap[E]? = some (.cells #[.int .i64 91] 35 (0, 0)) ∧ Below B w w' := by
  have hta : ∀ w : World, (Instr.typeAssert (.iface 132 (.agg #[])) 20 132 true).run Try.prog w = .ok (.tuple #[.agg #[], .bool true]) w := fun _ => by kernel_rfl
  refine callsD_of_wpS Try.func94 rfl fun c₀ cs hu => ?_
  apply wpS_seq
  apply wpS_region
  simp [wpOpsS, go_sem, recoverD, hu, Try.ntmps94, Exit.thenS, hta]
  refine wpS_of_wp ?_
  simp only [show Array.replicate 9 undef = #[undef, undef, undef, undef, undef, undef, undef, undef, undef] from rfl, List.setIfInBounds_toArray, List.set_cons_zero, List.set_cons_succ, List.append_toArray, List.cons_append, List.nil_append]
  have HB : Hid ((w.alloc (.cells #[] 132)).heap[B]? = some (oL o)) := at_ext hB
  obtain ⟨w2, hw2⟩ : ∃ w2, (w.alloc (.cells #[] 132)).setRow B #[.int .i64 0, .int .i64 0, .int .i64 0, .int .u32 0, .bool false, .bool false] = w2 := ⟨_, rfl⟩
  have HB2 : Hid (w2.heap[B]? = some (oL OS.zero)) := by unfold Hid; rw [← hw2]; exact setRow_heap _ _ _ _ _ _ HB.out
  have HE2 : Hid (w2.heap[E]? = some (.cells #[.int .i64 e0] 35 (0, 0))) := by unfold Hid; rw [← hw2]; exact (setRow_other _ _ _ _ (by omega)).trans (at_ext hE)
  have HX2 : Hid (Below B w w2) := by unfold Hid; rw [← hw2]; exact below_setRow ((Below.refl B w).alloc (Nat.le_of_lt (at_lt hB)) _) (Nat.le_refl _) _
  have f2 := at_frozen HE2.out 0
  have q2 : w2.cell? ⟨E, 0, none⟩ = some (.int .i64 e0) := at_cell HE2.out 0
  go_wp2_with
    (refine wpList_store_row rfl 33 (.tmp 0) (.tmp 10) rfl B #[.int .i64 0, .int .i64 0, .int .i64 0, .int .u32 0, .bool false, .bool false] rfl rfl 33 #[.int .i64 o.mru, .int .i64 o.accm, .int .i64 o.auth, .int .u32 o.magic, .bool o.pfc, .bool o.acfc] HB.out (by kernel_rfl) rfl (by simp [Value.oneCell']) ?_)
  exact ⟨rfl, _, rfl, .tuple #[], by simp [results, Try.results94], rfl, rfl, (Below.heap_setCell _ _ _ _ (by show B ≠ E; omega)).trans HB2.out, at_set HE2.out 0 _, HX2.out.setCell (p := ⟨E, 0, none⟩) (by show B ≤ E; omega) _⟩
set_option maxRecDepth 100000 in
theorem rec_idle (B E : Nat) (w : World) :
    CallsD Try.prog 94 #[.pointer (some ⟨B, 0, none⟩), .pointer (some ⟨E, 0, none⟩)] .returning w fun e u' w' => e = .returned (.tuple #[]) ∧ u' = .returning ∧ Below w.heap.size w w' := by
  have hta : ∀ w : World, (Instr.typeAssert .nilIface 20 132 true).run Try.prog w = .ok (.tuple #[.agg #[], .bool false]) w := fun _ => by kernel_rfl
  refine callsD_of_wpS Try.func94 rfl fun c₀ cs hu => ?_
  apply wpS_seq
  apply wpS_region
  simp [wpOpsS, go_sem, recoverD, hu, Try.ntmps94, Exit.thenS, hta]
  refine wpS_of_wp ?_
  simp only [show Array.replicate 9 undef = #[undef, undef, undef, undef, undef, undef, undef, undef, undef] from rfl, List.setIfInBounds_toArray, List.set_cons_zero, List.set_cons_succ, List.append_toArray, List.cons_append, List.nil_append]
  go_wp2
  obtain ⟨k0, k1, k2, k3, k4, k5, k6⟩ := c₀
  simp only at hu
  subst hu
  exact ⟨rfl, .returning, rfl, .tuple #[], by simp [results, Try.results94], rfl, rfl, (Below.refl _ _).alloc (Nat.le_refl _) _⟩
end Go.Proofs.Ytodibldfolognaa

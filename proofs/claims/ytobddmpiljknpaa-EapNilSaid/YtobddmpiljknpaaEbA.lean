/-
  eap: isName, copied, fits; stores of a part of a row. Conditions: sizes.
-/
import Derived.Test.YtobddmpiljknpaaEaE
import Derived.Test.YtobddmpiljknpaaPpL
import Derived.Laws.CopyRow
namespace Go.Proofs.Ytobddmpiljknpaa
open Go.RowKit
set_option linter.unusedVariables false
set_option linter.unusedSimpArgs false

theorem run_storeVar_sub {P : Program} (w : World) (g o : Nat) (t ty : TypeId) (old cells new : Array Value) (hg : w.heap[g]? = some (.cells old t (0, 0))) (hi : (P.info? ty).map (·.size) = some cells.size)
    (ho : o + cells.size ≤ old.size) (h1 : cells.all (·.oneCell') = true) (hn : (old.toList.take o ++ cells.toList ++ old.toList.drop (o + cells.size)).toArray = new) :
    (storeVar ty ⟨g, o, none⟩ (.agg cells)).run P w = .ok () (w.setRow g new) := by
  have := run_storeCells_at (P := P) g o t cells.toList 0 old w hg (by simp; omega) (fun v hv => (Array.all_eq_true_iff_forall_mem.1 h1) v (by simpa using hv))
  simp only [Nat.add_zero, Array.length_toList, hn] at this
  cases hq : P.info? ty with
  | none => simp [hq] at hi
  | some i =>
    have hs : cells.size = i.size := by simp [hq] at hi; omega
    simp [storeVar, sizeOf, typeInfo, hq, Value.cells, hs, this]
/-- A whole array or struct that is stored into a part of a row. -/
theorem wpList_store_sub {P : Program} {ops : Array Oper} {rest : List Oper} {o : Oper} {a : Act} {w : World} {Q : Exit → Act → World → Prop} (hgd : o.guard = none) (ty : TypeId) (x y : Operand) (ho : o.op = .store ty x y)
    (g off : Nat) (cells new : Array Value) (hx : a.eval x = .pointer (some ⟨g, off, none⟩)) (hy : a.eval y = .agg cells)
    (t : TypeId) (old : Array Value) (hg : w.heap[g]? = some (.cells old t (0, 0))) (hi : (P.info? ty).map (·.size) = some cells.size)
    (hold : off + cells.size ≤ old.size) (h1 : cells.all (·.oneCell') = true) (hn : (old.toList.take off ++ cells.toList ++ old.toList.drop (off + cells.size)).toArray = new)
    (h : wpList P ops Q rest (a.put o.dst undef) (w.setRow g new)) : wpList P ops Q (o :: rest) a w := by
  refine wpList_plain hgd fun K hK => ?_
  unfold Oper.wp execOp
  simp only [ho, hx, hy, Instr.storeAt, Instr.sureAddr, Sem.run_bind, Sem.run_pure, Result.andThen_ok, run_storeVar_sub w g off t ty old cells new hg hi hold h1 hn]
  exact hK _ _ h
theorem step_store_sub {P : Program} {ops : Array Oper} {o : Oper} {a : Act} {w : World} {K : Act → World → Prop} {Q : Exit → Act → World → Prop} {F : Prop} (hw : Region.wanted o (yielded ops a.tmps) = true) (ty : TypeId) (x y : Operand) (ho : o.op = .store ty x y)
    (g off : Nat) (cells new : Array Value) (hx : a.eval x = .pointer (some ⟨g, off, none⟩)) (hy : a.eval y = .agg cells)
    (t : TypeId) (old : Array Value) (hg : w.heap[g]? = some (.cells old t (0, 0))) (hi : (P.info? ty).map (·.size) = some cells.size)
    (hold : off + cells.size ≤ old.size) (h1 : cells.all (·.oneCell') = true) (hn : (old.toList.take off ++ cells.toList ++ old.toList.drop (off + cells.size)).toArray = new)
    (h : K (a.put o.dst undef) (w.setRow g new)) : if Region.wanted o (yielded ops a.tmps) = true then Oper.wp P o a w K Q else F := by
  rw [if_pos hw]
  unfold Oper.wp execOp
  simp only [ho, hx, hy, Instr.storeAt, Instr.sureAddr, Sem.run_bind, Sem.run_pure, Result.andThen_ok, run_storeVar_sub w g off t ty old cells new hg hi hold h1 hn]
  exact h
theorem isName_any (s : ByteArray) (hs : s.size ≤ 140737488355328) (w : World) :
    Calls Try.prog 77 #[.string s] w fun e w' => e = .returned (.bool (nameF (strB s))) ∧ Below w.heap.size w w' := by
  have HR : Hid (rightF (strB s) (strB ⟨#[120]⟩) (strB ⟨#[]⟩) [] = if nameF (strB s) then 0 else 60) := by
    unfold Hid rightF
    rw [show nameF (strB ⟨#[120]⟩) = true by decide +kernel]
    cases nameF (strB s) <;> rfl
  go_enter Try.func77, Try.ntmps77
  go_wp2_with fail
  refine (right_any s ⟨#[120]⟩ ⟨#[]⟩ none 0 0 [] hs (by decide) (by decide) rfl _ (Cells.nil_ _ _)).mono ?_
  rintro e w1 ⟨rfl, hb⟩
  rw [HR.out]
  rcases hq : nameF (strB s) with _ | _
  · go_wp2
    go_ret
    exact ⟨by rw [hq]; rfl, hb⟩
  · go_wp2
    go_ret
    exact ⟨by rw [hq]; rfl, hb⟩
def fitsB (n : Nat) : Bool := decide (1 ≤ n ∧ n ≤ 255)
theorem fits4_any (A : Option Addr) (n c : Nat) (hn : n ≤ 140737488355328) (w : World) : Calls Try.prog 81 #[.slice A n c] w fun e w' => e = .returned (.bool (fitsB n)) ∧ w = w' := by
  by_cases h1 : n < 1
  · have HB : Hid (fitsB n = false) := decide_eq_false (by omega)
    have h1' : ¬ (1 : Int) ≤ (n : Int) := by omega
    go_enter Try.func81, Try.ntmps81
    go_wp2
    go_ret
    exact ⟨ret_bool HB.out.symm, rfl⟩
  have h1' : (1 : Int) ≤ (n : Int) := by omega
  by_cases h2 : 255 < n
  · have HB : Hid (fitsB n = false) := decide_eq_false (by omega)
    have h2' : decide ((n : Int) ≤ 255) = false := decide_eq_false (by omega)
    go_enter Try.func81, Try.ntmps81
    go_wp2
    go_ret
    exact ⟨ret_bool HB.out.symm, rfl⟩
  have HB : Hid (fitsB n = true) := decide_eq_true (by omega)
  have h2' : decide ((n : Int) ≤ 255) = true := decide_eq_true (by omega)
  go_enter Try.func81, Try.ntmps81
  go_wp2
  go_ret
  exact ⟨ret_bool HB.out.symm, rfl⟩
/-- A packet in new memory. -/
def CopyTells (c i : Int) (xs : List Int) (w : World) (e : Ending) (w' : World) : Prop :=
  ∃ A k, e = .returned (.agg #[.int .i64 c, .int .i64 i, .slice A xs.length k]) ∧ w'.ownsRow w.heap.size 5 1 (.slice A xs.length k) xs.length (nums .u8 xs) ∧ Below w.heap.size w w'
set_option maxRecDepth 100000 in
set_option maxHeartbeats 4000000 in
theorem copied_any (c i : Int) (A : Option Addr) (n k : Nat) (xs : List Int) (hn : xs.length = n) (hn' : n ≤ 140737488355000) (w : World) (hx : Cells w A (nums .u8 xs)) :
    Calls Try.prog 99 #[.agg #[.int .i64 c, .int .i64 i, .slice A n k]] w (CopyTells c i xs w) := by
  have Hn := Lib.hid hn
  have HX := Lib.hid hx
  clear hn hx
  go_enter Try.func99, Try.ntmps99
  go_upto_region 1 with fail
  obtain ⟨wb, hwb⟩ : ∃ wb, (w.alloc (.cells #[.int .i64 c, .int .i64 i, .slice A n k] 24)).alloc zPk = wb := ⟨_, rfl⟩
  have HP : Hid (wb.heap[w.heap.size]? = some (.cells #[.int .i64 c, .int .i64 i, .slice A n k] 24 (0, 0))) := by unfold Hid; rw [← hwb]; exact at_ext (at_new w _)
  have HZ : Hid (wb.heap[w.heap.size + 1]? = some zPk) := by unfold Hid; rw [← hwb]; exact at_new1 (by simp)
  have HW : Hid (Ext w wb) := by unfold Hid; rw [← hwb]; exact inferInstance
  have HLB : Hid (w.heap.size + 1 < wb.heap.size) := at_lt HZ.out
  rw [hwb]
  clear hwb
  have p2 : wb.cell? ⟨w.heap.size, 2, none⟩ = some (.slice A n k) := at_cell HP.out 2
  go_upto_region 2 with
    (at_builtin
     refine wp_append_cells (w0 := wb) wb.heap.size rfl (.const (.slice none 0 0)) (.tmp 4) 22 5 (.int .u8 0) 1 1 rfl Try.underlying22 info_u8 rfl (by decide) (by decide) (.slice none 0 0) 0 [] A n k (nums .u8 xs) rfl rfl (by rw [nums_length, Hn.out, Nat.mul_one]) (nums_one _ _) (own_nil _ _ _ _) (HX.out.ext (h := HW.out)) (Below.refl _ _) (Nat.le_refl _) (by omega) ?_
     intro v3 w3 ho3 hb3 hg3 hat3
     rw [Nat.zero_add, List.nil_append] at ho3
     obtain ⟨A3, c3, rfl, hc3⟩ := own_slice ho3
     have HO3 := Lib.hid ho3
     have X3 : Hid (Ext wb w3) := ⟨hb3⟩
     have HP3 : Hid (w3.heap[w.heap.size]? = some (.cells #[.int .i64 c, .int .i64 i, .slice A n k] 24 (0, 0))) := at_ext (h := X3.out) HP.out
     have r3 : w3.cell? ⟨w.heap.size, 2, none⟩ = some (.slice A n k) := at_cell HP3.out 2
     have f3 : w3.frozen? ⟨w.heap.size, 2, none⟩ = false := at_frozen HP3.out 2
     clear ho3 hb3 hg3 hat3 hc3 p2)
  obtain ⟨w4, hw4⟩ : ∃ w4, w3.setCell ⟨w.heap.size, 2, none⟩ (.slice A3 n c3) = w4 := ⟨_, rfl⟩
  have HP4 : Hid (w4.heap[w.heap.size]? = some (.cells #[.int .i64 c, .int .i64 i, .slice A3 n c3] 24 (0, 0))) := by unfold Hid; rw [← hw4]; exact at_set HP3.out 2 _
  have HN3 : Hid ((Value.slice A3 n c3).ownBlock ≠ some w.heap.size) := own_type_ne HO3.out HP3.out (by decide)
  have HO4 : Hid (w4.ownsRow wb.heap.size 5 1 (.slice A3 n c3) n (nums .u8 xs)) := by unfold Hid; rw [← hw4]; exact own_setCell HO3.out (p := ⟨w.heap.size, 2, none⟩) HN3.out _
  have HZ4 : Hid (w4.heap[w.heap.size + 1]? = some zPk) := by unfold Hid; rw [← hw4]; exact at_other (p := ⟨w.heap.size, 2, none⟩) _ (at_ext (h := X3.out) HZ.out) (by show w.heap.size + 1 ≠ w.heap.size; omega)
  have X4 : Hid (Ext w w4) := by unfold Hid; rw [← hw4]; exact ⟨(Ext.trans_ HW.out X3.out).out.setCell (p := ⟨w.heap.size, 2, none⟩) (Nat.le_refl _) _⟩
  have HNE : Hid ((Value.slice A3 n c3).ownBlock ≠ some (w.heap.size + 1)) := own_type_ne HO4.out HZ4.out (by decide)
  rw [hw4]
  clear hw4 r3 f3
  go_wp2_with
    (first
     | (refine wpList_load_row rfl 24 (.tmp 1) rfl w.heap.size rfl 24 #[.int .i64 c, .int .i64 i, .slice A3 n c3] (0, 0) _ HP4.out Try.underlying24 rfl (by kernel_rfl) ?_)
     | (refine wpList_store_row rfl 24 (.tmp 2) (.tmp 7) rfl (w.heap.size + 1) #[.int .i64 c, .int .i64 i, .slice A3 n c3] rfl rfl 24 #[.int .i64 0, .int .i64 0, .slice none 0 0] HZ4.out (by kernel_rfl) rfl (by simp [Value.oneCell']) ?_))
  refine bodyPost_ret (results_cell_row1 Try.results99 _ _ (w.heap.size + 1) 24 #[.int .i64 c, .int .i64 i, .slice A3 n c3] (0, 0) _ rfl (setRow_heap _ _ _ _ _ _ HZ4.out) Try.underlying24 rfl (by kernel_rfl)) rfl ?_
  refine ⟨A3, c3, by rw [Hn.out], ?_, (Ext.setRow_ X4.out (by omega) _).out⟩
  rw [Hn.out]
  exact own_weaken (own_setRow HO4.out HNE.out _) HW.out.out.size
end Go.Proofs.Ytobddmpiljknpaa

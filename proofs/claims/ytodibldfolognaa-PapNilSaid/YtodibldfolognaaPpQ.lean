/-
  tetherlaw12.PapNil: what there is not answers ErrNil: for every input the call answers true. No condition.
-/
import Derived.Test.YtodibldfolognaaPpP
namespace Go.Proofs.Ytodibldfolognaa
open Go.RowKit
set_option linter.unusedVariables false
set_option linter.unusedSimpArgs false

set_option maxRecDepth 100000 in
set_option maxHeartbeats 8000000 in
theorem nil12_law (code id : Int) (A : Option Addr) (n c : Nat) (w : World) : Calls Try.prog 12 #[.agg #[.int .i64 code, .int .i64 id, .slice A n c]] w fun e w' => e = .returned (.bool true) ∧ Below w.heap.size w w' := by
  go_enter Try.func12, Try.ntmps12
  go_upto_region 3 with fail
  obtain ⟨wb, hwb⟩ : ∃ wb, w.alloc (.cells #[.int .i64 code, .int .i64 id, .slice A n c] 43) = wb := ⟨_, rfl⟩
  have HP : Hid (wb.heap[w.heap.size]? = some (.cells #[.int .i64 code, .int .i64 id, .slice A n c] 43 (0, 0))) := by unfold Hid; rw [← hwb]; exact at_new w _
  have Sb : Step wb w := ⟨by rw [← hwb]; exact Ext.out⟩
  rw [hwb]
  clear hwb
  have a0 : wb.cell? ⟨w.heap.size, 0, none⟩ = some (.int .i64 code) := at_cell HP.out 0
  have a1 : wb.cell? ⟨w.heap.size, 1, none⟩ = some (.int .i64 id) := at_cell HP.out 1
  have a2 : wb.cell? ⟨w.heap.size, 2, none⟩ = some (.slice A n c) := at_cell HP.out 2
  go_wp2_with fail
  refine (take_nil code id A n c _).mono ?_
  rintro e w1 ⟨rfl, hb1⟩
  have S1 : Step w1 wb := ⟨hb1⟩
  clear hb1 a0 a1 a2
  have p1 : ∀ o, (w1.alloc o).heap[w1.heap.size]? = some o := at_new w1
  go_wp2_with
    (refine wpList_store_row_o rfl 43 (.tmp 5) (.tmp 17) rfl w1.heap.size #[.int .i64 0, .int .i64 0, .slice none 0 0] rfl rfl 43 #[.int .i64 0, .int .i64 0, .slice none 0 0] (p1 _) (by kernel_rfl) rfl (by simp [Value.oneCell']) ?_
     intro w2 hr2 ho2 hz2 hb2
     have HRw2 := Lib.hid hr2
     have Sw2 : Step w2 w1 := ⟨hb2 _ _ (inferInstance : Ext w1 (w1.alloc _)).out (Nat.le_refl _)⟩
     clear hr2 ho2 hz2 hb2 p1)
  refine (psend_nil _).mono ?_
  rintro e w3 ⟨rfl, hb3⟩
  have S3 : Step w3 w2 := ⟨hb3⟩
  clear hb3
  have p3 : ∀ o, (w3.alloc o).heap[w3.heap.size]? = some o := at_new w3
  go_upto_region 5 with
    (refine wpList_store_row_o rfl 43 (.tmp 8) (.tmp 23) rfl w3.heap.size #[.int .i64 0, .int .i64 0, .slice none 0 0] rfl rfl 43 #[.int .i64 0, .int .i64 0, .slice none 0 0] (p3 _) (by kernel_rfl) rfl (by simp [Value.oneCell']) ?_
     intro w4 hr2 ho2 hz2 hb2
     have HRw4 := Lib.hid hr2
     have Sw4 : Step w4 w3 := ⟨hb2 _ _ (inferInstance : Ext w3 (w3.alloc _)).out (Nat.le_refl _)⟩
     clear hr2 ho2 hz2 hb2 p3)
  have a0 : w4.cell? ⟨w.heap.size, 0, none⟩ = some (.int .i64 code) := at_cell (at_ext HP.out) 0
  have a1 : w4.cell? ⟨w.heap.size, 1, none⟩ = some (.int .i64 id) := at_cell (at_ext HP.out) 1
  have a2 : w4.cell? ⟨w.heap.size, 2, none⟩ = some (.slice A n c) := at_cell (at_ext HP.out) 2
  go_wp2_with fail
  refine (ptake_nil code id A n c _).mono ?_
  rintro e w5 ⟨rfl, hb5⟩
  have S5 : Step w5 w4 := ⟨hb5⟩
  clear hb5 a0 a1 a2
  go_wp2_with fail
  refine (reset_nil _).mono ?_
  rintro e w6 ⟨rfl, rfl⟩
  go_wp2_with fail
  refine (preset_nil _).mono ?_
  rintro e w6 ⟨rfl, rfl⟩
  have b0 : w5.cell? ⟨w1.heap.size, 0, none⟩ = some (.int .i64 0) := at_cell (at_ext HRw2.out) 0
  have b1 : w5.cell? ⟨w1.heap.size, 1, none⟩ = some (.int .i64 0) := at_cell (at_ext HRw2.out) 1
  have b2 : w5.cell? ⟨w1.heap.size, 2, none⟩ = some (.slice none 0 0) := at_cell (at_ext HRw2.out) 2
  go_wp2_with fail
  refine (same12_any 0 0 0 0 none none 0 0 0 0 [] [] rfl rfl (fun _ h => by cases h) (fun _ h => by cases h) _ (Cells.nil_ _ _) (Cells.nil_ _ _)).mono ?_
  rintro e w7 ⟨rfl, hb7⟩
  have S7 : Step w7 w5 := ⟨hb7⟩
  rw [pkSame_self]
  clear hb7 b0 b1 b2
  have b0 : w7.cell? ⟨w3.heap.size, 0, none⟩ = some (.int .i64 0) := at_cell (at_ext HRw4.out) 0
  have b1 : w7.cell? ⟨w3.heap.size, 1, none⟩ = some (.int .i64 0) := at_cell (at_ext HRw4.out) 1
  have b2 : w7.cell? ⟨w3.heap.size, 2, none⟩ = some (.slice none 0 0) := at_cell (at_ext HRw4.out) 2
  go_wp2_with fail
  refine (same12_any 0 0 0 0 none none 0 0 0 0 [] [] rfl rfl (fun _ h => by cases h) (fun _ h => by cases h) _ (Cells.nil_ _ _) (Cells.nil_ _ _)).mono ?_
  rintro e w8 ⟨rfl, hb8⟩
  have S8 : Step w8 w7 := ⟨hb8⟩
  rw [pkSame_self]
  clear hb8 b0 b1 b2
  go_wp2_with fail
  refine (state_nil _).mono ?_
  rintro e w9 ⟨rfl, rfl⟩
  go_wp2_with fail
  refine (who_nil _).mono ?_
  rintro e w9 ⟨rfl, rfl⟩
  go_wp2_with fail
  refine (pstate_nil _).mono ?_
  rintro e w9 ⟨rfl, rfl⟩
  go_wp2_with fail
  refine (pmessage_nil _).mono ?_
  rintro e w9 ⟨rfl, rfl⟩
  go_wp2_with fail
  refine (awake12_any _).mono ?_
  rintro e w9 ⟨rfl, hb9⟩
  have S9 : Step w9 w8 := ⟨hb9⟩
  clear hb9
  go_wp2
  go_ret
  exact ⟨rfl, Ext.out⟩
namespace PapNil
set_option maxRecDepth 100000 in
theorem walk (U : Nat) (W : World) (vs : List Value) (h : Args U Try.prog W Try.f12.params.toList vs) : Calls Try.prog 12 vs.toArray W fun e W' => e = .returned (.bool true) ∧ Below W.heap.size W W' := by
  rw [Try.params12] at h
  match vs, h with
  | [v0], ⟨h0, _⟩ =>
    obtain ⟨code, id, A, n, c, xs, rfl, _⟩ := arg_packet h0
    exact nil12_law code id A n c W

set_option maxRecDepth 100000 in
theorem lifted (os : Os) (started : os.Started) (H : Type) (enc : TypeId × Value → H) :
    ReturnsInHanded {} Try.checked os 12 .any (Rows.papNilSpec.pre6 enc Try.prog Try.f12 Rows.papNilRow.domain false) (Rows.papNilSpec.post enc Try.prog Try.f12 false true false false) :=
  law_lifted (C := Try.checked) laid_out own_knob started (by kernel_rfl) Try.func12 H enc rfl
    (fun ds hd => by
      have : ds.length = 1 := hd
      match ds, this with
      | [_], _ => exact ⟨rfl, rfl, rfl⟩) rfl Try.underlying4 (by
      have : (Try.f12.params.toList.all fun t => Try.prog.readableRec t && decide (t < Try.prog.types.size)) = true := by kernel_rfl
      intro t ht
      have h := List.all_eq_true.1 this t ht
      rw [Bool.and_eq_true, decide_eq_true_eq] at h
      exact h)
    (ChangeSpec.witness6 (enc := enc) (C := Try.checked) false ⟨#[], #[.agg #[.int .i64 0, .int .i64 0, .slice none 0 0]], []⟩ 8 (by kernel_rfl) (by kernel_rfl) (by kernel_rfl) (by kernel_rfl)) walk

theorem over : Rows.papNilRow.holds Try.pinned (OpenSpec.ofChange Rows.papNilSpec) :=
  OpenClaim.holds_of_wide 12 Try.f12 rfl rfl rfl rfl rfl rfl rfl ⟨rfl, rfl, rfl, rfl, rfl⟩ rfl rfl rfl rfl rfl (by kernel_rfl) Try.func12 (by kernel_rfl)
    (of_decide_eq_true (by kernel_rfl)) (by unfold Func.isWrapper; first | (rw [if_pos (by decide +kernel)]; kernel_rfl) | (rw [if_neg (by decide +kernel)]; exact ⟨rfl, rfl⟩))
    (fun os started H enc _ => lifted os started H enc)

/-- The statement. -/
theorem proved : Rows.PapNilSaid := over
#print axioms proved
end PapNil
end Go.Proofs.Ytodibldfolognaa
